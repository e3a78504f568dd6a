/- What the functions of a law compute, and that their calls compute it: written by a program of this session (xprint.py), which turns the kit print at a few places. -/
import Derived.Test.YtcpcphdhaboekaaXFnExactDecodex0
import Derived.Test.YtcpcphdhaboekaaXFnExactDecodex1
import Derived.Test.YtcpcphdhaboekaaXFnExactDecodex3
import Derived.Test.YtcpcphdhaboekaaXFnExactDecodex5
namespace Go.Proofs.Ytcpcphdhaboekaa.XFnExactDecode
open Go.RowKit Go.Proofs.YtcpcphdhaboekaaV.PrintWords Go.Proofs.YtcpcphdhaboekaaV.PrintLast Go.Proofs.YtcpcphdhaboekaaV.PrintMore
attribute [local go_sem] max2_int min2_int max_two min_two max_three min_three max_four min_four   -- for this text's walks alone
set_option linter.unusedVariables false
set_option linter.unusedSimpArgs false

/-! ### impl_Decode: function 14 -/
mutual
def impl_Decode.j0 : Nat → Int → List ByteArray → List Bool → Int → Bool → Option (List ByteArray × Bool)
 | 0, _, _, _, _, _ => none
 | k + 1, x0, x1, x2, x8, x40 => if x40 = true then (some (([] : List ByteArray), false)) else ((impl_CodeOf.f k x0).bind fun t167 => (impl_Decode.l0 k x1 x8 t167 ([] : List (List Int)) ([] : List ByteArray) x2 (x2.length : Int) 0))
def impl_Decode.l0 : Nat → List ByteArray → Int → List (List Int) → List (List Int) → List ByteArray → List Bool → Int → Int → Option (List ByteArray × Bool)
 | 0, _, _, _, _, _, _, _, _ => none
 | k + 1, x1, x8, x11, x12, x13, x43, x44, x45 => if x45 < x44 then (if 0 ≤ x45 then (if x45 < (x43.length : Int) then (if rdOf false x43 x45 = true then (if (x13.length : Int) > 0 then (if x45 < (x1.length : Int) then (if 0 < (x13.length : Int) then (if ((rdOf ByteArray.empty x1 x45).size : Int) = ((rdOf ByteArray.empty x13 0).size : Int) then (if x45 < (x11.length : Int) then ((some (([rd_L1 x11 x45] : List (List Int)) : List (List Int))).bind fun y174 => (if x12.length + y174.length < 5864062014805 then ((some (([rdOf ByteArray.empty x1 x45] : List ByteArray) : List ByteArray)).bind fun y181 => (if x13.length + y181.length < 8796093022208 then (impl_Decode.l0 k x1 x8 x11 (x12 ++ y174) (x13 ++ y181) x43 x44 (wrap64 (x45 + 1))) else (none))) else (none))) else (none)) else (some (([] : List ByteArray), false))) else (none)) else (none)) else (if x45 < (x11.length : Int) then ((some (([rd_L1 x11 x45] : List (List Int)) : List (List Int))).bind fun y188 => (if x12.length + y188.length < 5864062014805 then (if x45 < (x1.length : Int) then ((some (([rdOf ByteArray.empty x1 x45] : List ByteArray) : List ByteArray)).bind fun y195 => (if x13.length + y195.length < 8796093022208 then (impl_Decode.l0 k x1 x8 x11 (x12 ++ y188) (x13 ++ y195) x43 x44 (wrap64 (x45 + 1))) else (none))) else (none)) else (none))) else (none))) else (impl_Decode.l0 k x1 x8 x11 x12 x13 x43 x44 (wrap64 (x45 + 1)))) else (none)) else (none)) else (if (x13.length : Int) < x8 then (some (([] : List ByteArray), false)) else (if 0 ≤ x8 then (if x8 ≤ (x12.length : Int) then ((impl_InvM.f (x12.take (x8 : Int).toNat)).bind fun bt206 => (if bt206.2 = true then (if x8 ≤ (x13.length : Int) then ((impl_ApplyM.f k bt206.1 (x13.take (x8 : Int).toNat)).bind fun t215 => (some (t215, true))) else (none)) else (some (([] : List ByteArray), false)))) else (none)) else (none)))
end
def impl_Decode.f (k : Nat) (a0 : Int) (l1 : List ByteArray) (l2 : List Bool) : Option (List ByteArray × Bool) := (impl_SchemaOf.f a0).bind fun bt164 => (if bt164.2.2 = true then (if (l1.length : Int) = (wrap64 (bt164.1 + bt164.2.1)) then (impl_Decode.j0 k a0 l1 l2 bt164.1 ((l2.length : Int) != (wrap64 (bt164.1 + bt164.2.1)))) else (impl_Decode.j0 k a0 l1 l2 bt164.1 true)) else (impl_Decode.j0 k a0 l1 l2 bt164.1 true))
theorem impl_Decode.mono_l : ∀ k, (∀ y0 y1 y2 y3 y4, LeO (impl_Decode.j0 k y0 y1 y2 y3 y4) (impl_Decode.j0 (k + 1) y0 y1 y2 y3 y4)) ∧ (∀ y0 y1 y2 y3 y4 y5 y6 y7, LeO (impl_Decode.l0 k y0 y1 y2 y3 y4 y5 y6 y7) (impl_Decode.l0 (k + 1) y0 y1 y2 y3 y4 y5 y6 y7))
 | 0 => ⟨fun _ _ _ _ _ r h => by simp [impl_Decode.j0] at h, fun _ _ _ _ _ _ _ _ r h => by simp [impl_Decode.l0] at h⟩
 | k + 1 => by
  obtain ⟨ih0, ih1⟩ := impl_Decode.mono_l k
  refine ⟨?_, ?_⟩
  ·intro y0 y1 y2 y3 y4
   unfold impl_Decode.j0
   repeat' first
   | (with_reducible exact LeO.refl _)
   | (with_reducible refine LeO.ite ?_ ?_)
   | (with_reducible refine LeO.bind ?_ (fun _ => ?_))
   | exact ih0 _ _ _ _ _
   | exact ih1 _ _ _ _ _ _ _ _
   | exact impl_ApplyM.mono _ _ _
   | exact impl_CodeOf.mono _ _
   | exact LeO.none _
   | refine LeO.ite ?_ ?_
   | refine LeO.bind ?_ (fun _ => ?_)
  ·intro y0 y1 y2 y3 y4 y5 y6 y7
   unfold impl_Decode.l0
   repeat' first
   | (with_reducible exact LeO.refl _)
   | (with_reducible refine LeO.ite ?_ ?_)
   | (with_reducible refine LeO.bind ?_ (fun _ => ?_))
   | exact ih0 _ _ _ _ _
   | exact ih1 _ _ _ _ _ _ _ _
   | exact impl_ApplyM.mono _ _ _
   | exact impl_CodeOf.mono _ _
   | exact LeO.none _
   | refine LeO.ite ?_ ?_
   | refine LeO.bind ?_ (fun _ => ?_)
theorem impl_Decode.mono : ∀ a0 a1 a2 k, LeO (impl_Decode.f k a0 a1 a2) (impl_Decode.f (k + 1) a0 a1 a2) := by
 intro a0 a1 a2 k
 obtain ⟨ih0, ih1⟩ := impl_Decode.mono_l k
 unfold impl_Decode.f
 repeat' first
   | (with_reducible exact LeO.refl _)
   | (with_reducible refine LeO.ite ?_ ?_)
   | (with_reducible refine LeO.bind ?_ (fun _ => ?_))
   | exact ih0 _ _ _ _ _
   | exact ih1 _ _ _ _ _ _ _ _
   | exact impl_ApplyM.mono _ _ _
   | exact impl_CodeOf.mono _ _
   | exact LeO.none _
   | refine LeO.ite ?_ ?_
   | refine LeO.bind ?_ (fun _ => ?_)
def impl_Decode.T11 : Bool × List (List Nat × List Nat) := (true, [([], []), ([0], [0]), ([1], [1]), ([2], [2]), ([3], [3]), ([3], [3]), ([4, 5, 3], [3, 4, 5]), ([6, 3], [3, 6]), ([7, 3], [3, 7]), ([3], [3]), ([9, 3], [3, 9]), ([10, 3], [3, 10]), ([11, 3], [3, 11]), ([8, 12, 3], [3, 8, 12]), ([3, 13], [3, 13])])
def impl_Decode.B11 : List Nat := [0, 1, 3, 7, 15, 15, 63, 127, 255, 15, 527, 1551, 3599, 8191, 16383]
theorem impl_Decode.tab11 : rtab .any (opsOf Try.f14 11) = impl_Decode.T11 := by kernel_rfl
theorem impl_Decode.bits11 : waitsOk impl_Decode.T11.2 impl_Decode.B11 = true := by kernel_rfl
def impl_Decode.T13 : Bool × List (List Nat × List Nat) := (true, [([], []), ([], []), ([], []), ([1, 2], [1, 2]), ([3], [3]), ([4], [4]), ([0, 5], [0, 5]), ([], []), ([], []), ([], []), ([8, 9], [8, 9]), ([10], [10]), ([11], [11]), ([7, 12, 6], [7, 12]), ([6, 13, 0, 1, 2, 3, 4, 5, 6], [0, 6]), ([13, 14, 0, 1, 2, 3, 4, 5, 6, 7, 8, 9, 10, 11, 12, 13, 14], [7, 13])])
def impl_Decode.B13 : List Nat := [0, 0, 0, 6, 14, 30, 63, 0, 0, 0, 768, 1792, 3840, 8191, 16383, 32767]
theorem impl_Decode.tab13 : rtab .any (opsOf Try.f14 13) = impl_Decode.T13 := by kernel_rfl
theorem impl_Decode.bits13 : waitsOk impl_Decode.T13.2 impl_Decode.B13 = true := by kernel_rfl
set_option maxHeartbeats 8000000 in
set_option maxRecDepth 100000 in
theorem impl_Decode.calls (k : Nat) (a0 : Int) (A1 : Option Addr) (c1 : Nat) (l1 : List ByteArray) (A2 : Option Addr) (c2 : Nat) (l2 : List Bool) (r1 : List ByteArray) (r2 : Bool) (w : World) (hr1 : Kd.C Kd.string w A1 l1.length l1) (hc1 : l1.length ≤ c1) (hr2 : Kd.C Kd.bool w A2 l2.length l2) (hc2 : l2.length ≤ c2) (h : impl_Decode.f k a0 l1 l2 = some (r1, r2)) :
  Calls Try.prog 14 #[.int .i64 a0, .slice A1 l1.length c1, .slice A2 l2.length c2] w fun e w' => ∃ v0_ : Value, e = .returned (.tuple #[v0_, .bool r2]) ∧ Kd.R Kd.string 9 w' w.heap.size (fun _ => True) v0_ r1 ∧ Below w.heap.size w w' := by
 have HR1 := Aside0.mk hr1
 have HC1 := Aside0.mk hc1
 clear hr1 hc1
 have HR2 := Aside0.mk hr2
 have HC2 := Aside0.mk hc2
 clear hr2 hc2
 have HB := Aside0.mk (Below.refl w.heap.size w)
 have H : ((impl_SchemaOf.f a0).bind fun bt164 => (if bt164.2.2 = true then (if (l1.length : Int) = (wrap64 (bt164.1 + bt164.2.1)) then (impl_Decode.j0 k a0 l1 l2 bt164.1 ((l2.length : Int) != (wrap64 (bt164.1 + bt164.2.1)))) else (impl_Decode.j0 k a0 l1 l2 bt164.1 true)) else (impl_Decode.j0 k a0 l1 l2 bt164.1 true))) = some (r1, r2) := h
 clear h
 replace H := Option.bind_eq_some_iff.mp H
 obtain ⟨⟨t164, t165, t166⟩, A40, H⟩ := H
 replace H : (if t166 = true then (if (l1.length : Int) = (wrap64 (t164 + t165)) then (impl_Decode.j0 k a0 l1 l2 t164 ((l2.length : Int) != (wrap64 (t164 + t165)))) else (impl_Decode.j0 k a0 l1 l2 t164 true)) else (impl_Decode.j0 k a0 l1 l2 t164 true)) = some (r1, r2) := H
 have A4 := Aside0.mk A40
 clear A40
 have HC5 := Aside0.mk H
 clear H
 go_enter Try.func14, Try.ntmps14
 go_upto_region 2 with (first | ((with_reducible refine gate_callee (f := 9) rfl ?_); refine goesL_ (some 19) rfl rfl Try.func9 (by kernel_rfl) rfl #[.int .i64 a0] rfl (by (try simp only [List.map_toArray, List.map_cons, List.map_nil]); first | done | rfl) ?_; (with_reducible refine (impl_SchemaOf.calls a0 t164 t165 t166 _ A4.out).mono ?_); rintro e w' ⟨rfl, ⟨nd, rfl⟩⟩; refine ⟨_, rfl, ?_⟩))
 (try simp only [Act.put, List.setIfInBounds_toArray, List.set_cons_zero, List.set_cons_succ])
 go_cut [40] (fun v40 wc => ∃ (kq : Nat) (x40_4 : Bool), v40 = .bool x40_4 ∧ Aside0 (impl_Decode.j0 kq a0 l1 l2 t164 x40_4 = some (r1, r2)) ∧ Aside0 (kq ≤ k) ∧ Aside0 (Below w.heap.size w wc))
 case first =>
  have H := HC5.out
  clear HC5
  by_cases c6 : t166 = true
  ·subst c6
   have H1 : (if (l1.length : Int) = (wrap64 (t164 + t165)) then (impl_Decode.j0 k a0 l1 l2 t164 ((l2.length : Int) != (wrap64 (t164 + t165)))) else (impl_Decode.j0 k a0 l1 l2 t164 true)) = some (r1, r2) := by rw [if_pos rfl] at H; exact H
   clear H
   have H := H1
   clear H1
   by_cases c7 : (l1.length : Int) = (wrap64 (t164 + t165))
   ·rw [if_pos c7] at H
    have c7b0 : ((l1.length : Int) == (wrap64 (t164 + t165))) = true := beq_iff_eq.mpr c7
    have c7b1 : ((l1.length : Int) != (wrap64 (t164 + t165))) = false := bne_eq_false_iff_eq.mpr c7
    clear c7
    (first | rw [c7b0] | (simp only [i64_w, i32_w]; rw [c7b0]) | rw [c7b1] | skip)
    have H' := Aside0.mk H
    clear H
    go_wp2
    go_meet
    case rel => exact ⟨_, (((l2.length : Int) != (wrap64 (t164 + t165)))), (by first | rfl | (simp; done) | (simp [*]; done)), H', ⟨by first | omega | exact Nat.le_refl _⟩, ⟨by repeat (first | exact HB.out | apply below_alloc | apply pw_below_drewN | apply below_drew1)⟩⟩
   ·rw [if_neg c7] at H
    have c7b0 : ((l1.length : Int) == (wrap64 (t164 + t165))) = false := beq_eq_false_iff_ne.mpr c7
    have c7b1 : ((l1.length : Int) != (wrap64 (t164 + t165))) = true := bne_iff_ne.mpr c7
    (first | rw [c7b0] | (simp only [i64_w, i32_w]; rw [c7b0]) | rw [c7b1] | skip)
    have H' := Aside0.mk H
    clear H
    go_wp2
    go_meet
    case rel => exact ⟨_, (true), (by first | rfl | (simp; done) | (simp [*]; done)), H', ⟨by first | omega | exact Nat.le_refl _⟩, ⟨by repeat (first | exact HB.out | apply below_alloc | apply pw_below_drewN | apply below_drew1)⟩⟩
  ·replace c6 := Bool.eq_false_iff.mpr c6
   subst c6
   have H1 : (impl_Decode.j0 k a0 l1 l2 t164 true) = some (r1, r2) := by rw [if_neg (show ¬ (false = true) by decide)] at H; exact H
   clear H
   have H := H1
   clear H1
   have H' := Aside0.mk H
   clear H
   go_wp2
   go_meet
   case rel => exact ⟨_, (true), (by first | rfl | (simp; done) | (simp [*]; done)), H', ⟨by first | omega | exact Nat.le_refl _⟩, ⟨by repeat (first | exact HB.out | apply below_alloc | apply pw_below_drewN | apply below_drew1)⟩⟩
 case rest =>
  clear HC5
  obtain ⟨kq, x40_4, rfl, HA, HJ4, HB⟩ := hcut
  cases kq with
  | zero => exact absurd HA.out (by simp [impl_Decode.j0])
  | succ kj4 =>
   have H := HA.out
   clear HA
   simp only [impl_Decode.j0] at H
   by_cases c8 : x40_4 = true
   ·subst c8
    have H1 : (some (([] : List ByteArray), false)) = some (r1, r2) := by rw [if_pos rfl] at H; exact H
    clear H
    have H := H1
    clear H1
    simp only [Option.some.injEq, Prod.mk.injEq] at H
    obtain ⟨rfl, rfl⟩ := H
    go_wp2
    go_ret2
    exact ⟨_, by first | rfl | (simp [errW_none, errW_some] <;> rfl) | (simp [*, errW_none, errW_some] <;> rfl), by first | exact Kd.R_nil _ _ _ _ _ | exact Kd.N_nil _ _ _ _ _ | exact Kd.V_nil _ _ _ _ _ | exact Kd.Q_nil _ _ _ _ _ | exact Kd.S_nil _ _ _ _ _, by repeat (first | exact HB.out | apply below_alloc | apply pw_below_drewN | apply below_drew1)⟩
   ·replace c8 := Bool.eq_false_iff.mpr c8
    subst c8
    have H1 : ((impl_CodeOf.f kj4 a0).bind fun t167 => (impl_Decode.l0 kj4 l1 t164 t167 ([] : List (List Int)) ([] : List ByteArray) l2 (l2.length : Int) 0)) = some (r1, r2) := by rw [if_neg (show ¬ (false = true) by decide)] at H; exact H
    clear H
    have H := H1
    clear H1
    replace H := Option.bind_eq_some_iff.mp H
    obtain ⟨t167, A90, H⟩ := H
    replace H : (impl_Decode.l0 kj4 l1 t164 t167 ([] : List (List Int)) ([] : List ByteArray) l2 (l2.length : Int) 0) = some (r1, r2) := H
    have A9 := Aside0.mk A90
    clear A90
    have H' := Aside0.mk H
    clear H
    go_wp2_with (first | ((with_reducible refine gate_callee (f := 32) rfl ?_); refine goesL_ (some 42) rfl rfl Try.func32 (by kernel_rfl) rfl #[.int .i64 a0] rfl (by (try simp only [List.map_toArray, List.map_cons, List.map_nil]); first | done | rfl) ?_; (with_reducible refine (impl_CodeOf.calls kj4 a0 t167 _ A9.out).mono ?_); rintro e w10 ⟨v168, rfl, ho0, hb⟩; refine ⟨_, rfl, ?_⟩; have n0_ := Aside0.mk (Kd.N_lower (Kd.N_mono (ok' := fun k_ => True) (Kd.S_N (Kd.S_bound ho0)) (fun k_ hk_ => trivial)) (below_size (by repeat (first | exact HB.out | apply below_alloc | apply pw_below_drewN | apply below_drew1)))); have n1_ := Aside0.mk (below_step (by repeat (first | exact HB.out | apply below_alloc | apply pw_below_drewN | apply below_drew1)) hb); clear HB; have HO169 := n0_; have HB := n1_; clear n0_ n1_; (try clear hb); (try clear hk); (try clear ho0)))
    go_loopg [12, 13, 45] kj4 (fun kq v12 v13 v45 w' => ∃ (x12_2 : List (List Int)) (x13_2 : List ByteArray) (x45_2 : Int), v45 = .int .i64 x45_2 ∧ Aside0 (impl_Decode.l0 kq l1 t164 t167 x12_2 x13_2 l2 (l2.length : Int) x45_2 = some (r1, r2)) ∧ Aside0 (kq ≤ kj4) ∧ Aside0 (Kd.N (Kd.slice 3 (Kd.int .i64)) 32 w' w.heap.size (fun k_ => some k_ ≠ (v12 : Value).ownBlock ∧ some k_ ≠ (v13 : Value).ownBlock) v168 t167) ∧ Aside0 (Kd.N (Kd.slice 3 (Kd.int .i64)) 32 w' w.heap.size (fun k_ => some k_ ≠ (v168 : Value).ownBlock ∧ some k_ ≠ (v13 : Value).ownBlock) v12 x12_2) ∧ Aside0 (Kd.R Kd.string 9 w' w.heap.size (fun _ => True) v13 x13_2) ∧ Aside0 (Below w.heap.size w w'))
    case atStart => exact ⟨(([] : List (List Int))), (([] : List ByteArray)), (0), (by first | rfl | (simp; done) | (simp [*]; done)), H', ⟨Nat.le_refl _⟩, ⟨by exact Kd.N_mono HO169.out (fun _ hk => ⟨(by simp [Value.ownBlock]), (by simp [Value.ownBlock])⟩)⟩, ⟨by first | exact Kd.S_nil _ _ _ _ _ | exact Kd.N_nil _ _ _ _ _ | exact Kd.V_nil _ _ _ _ _ | exact Kd.Q_nil _ _ _ _ _ | exact Kd.R_nil _ _ _ _ _⟩, ⟨by first | exact Kd.R_nil _ _ _ _ _ | exact Kd.N_nil _ _ _ _ _ | exact Kd.V_nil _ _ _ _ _ | exact Kd.Q_nil _ _ _ _ _ | exact Kd.S_nil _ _ _ _ _⟩, ⟨by repeat (first | exact HB.out | apply below_alloc | apply pw_below_drewN | apply below_drew1)⟩⟩
    case round =>
     clear H'
     obtain ⟨x12_2, x13_2, x45_2, rfl, HA, HK2, HO_11, HO_12, HO_13, HB⟩ := hrel
     cases gk with
     | zero => exact absurd HA.out (by simp [impl_Decode.l0])
     | succ k2 =>
      have H := HA.out
      clear HA
      simp only [impl_Decode.l0] at H
      by_cases c11 : x45_2 < (l2.length : Int)
      ·rw [if_pos c11] at H
       have c11b0 : decide (x45_2 < (l2.length : Int)) = true := decide_eq_true c11
       clear c11
       by_cases c12 : 0 ≤ x45_2
       ·rw [if_pos c12] at H
        have c12b0 : decide (0 ≤ x45_2) = true := decide_eq_true c12
        clear c12
        by_cases c13 : x45_2 < (l2.length : Int)
        ·rw [if_pos c13] at H
         have c13b0 : decide (x45_2 < (l2.length : Int)) = true := decide_eq_true c13
         clear c13
         obtain ⟨bq14, hbq14⟩ : ∃ b_ : Bool, b_ = (rdOf false l2 x45_2) := ⟨_, rfl⟩
         replace H : (if bq14 = true then (if (x13_2.length : Int) > 0 then (if x45_2 < (l1.length : Int) then (if 0 < (x13_2.length : Int) then (if ((rdOf ByteArray.empty l1 x45_2).size : Int) = ((rdOf ByteArray.empty x13_2 0).size : Int) then (if x45_2 < (t167.length : Int) then ((some (([rd_L1 t167 x45_2] : List (List Int)) : List (List Int))).bind fun y174 => (if x12_2.length + y174.length < 5864062014805 then ((some (([rdOf ByteArray.empty l1 x45_2] : List ByteArray) : List ByteArray)).bind fun y181 => (if x13_2.length + y181.length < 8796093022208 then (impl_Decode.l0 k2 l1 t164 t167 (x12_2 ++ y174) (x13_2 ++ y181) l2 (l2.length : Int) (wrap64 (x45_2 + 1))) else (none))) else (none))) else (none)) else (some (([] : List ByteArray), false))) else (none)) else (none)) else (if x45_2 < (t167.length : Int) then ((some (([rd_L1 t167 x45_2] : List (List Int)) : List (List Int))).bind fun y188 => (if x12_2.length + y188.length < 5864062014805 then (if x45_2 < (l1.length : Int) then ((some (([rdOf ByteArray.empty l1 x45_2] : List ByteArray) : List ByteArray)).bind fun y195 => (if x13_2.length + y195.length < 8796093022208 then (impl_Decode.l0 k2 l1 t164 t167 (x12_2 ++ y188) (x13_2 ++ y195) l2 (l2.length : Int) (wrap64 (x45_2 + 1))) else (none))) else (none)) else (none))) else (none))) else (impl_Decode.l0 k2 l1 t164 t167 x12_2 x13_2 l2 (l2.length : Int) (wrap64 (x45_2 + 1)))) = some (r1, r2) := by rw [← hbq14] at H; exact H
         have Nbq14 := Aside0.mk hbq14
         clear hbq14
         by_cases c15 : bq14 = true
         ·subst c15
          have H1 : (if (x13_2.length : Int) > 0 then (if x45_2 < (l1.length : Int) then (if 0 < (x13_2.length : Int) then (if ((rdOf ByteArray.empty l1 x45_2).size : Int) = ((rdOf ByteArray.empty x13_2 0).size : Int) then (if x45_2 < (t167.length : Int) then ((some (([rd_L1 t167 x45_2] : List (List Int)) : List (List Int))).bind fun y174 => (if x12_2.length + y174.length < 5864062014805 then ((some (([rdOf ByteArray.empty l1 x45_2] : List ByteArray) : List ByteArray)).bind fun y181 => (if x13_2.length + y181.length < 8796093022208 then (impl_Decode.l0 k2 l1 t164 t167 (x12_2 ++ y174) (x13_2 ++ y181) l2 (l2.length : Int) (wrap64 (x45_2 + 1))) else (none))) else (none))) else (none)) else (some (([] : List ByteArray), false))) else (none)) else (none)) else (if x45_2 < (t167.length : Int) then ((some (([rd_L1 t167 x45_2] : List (List Int)) : List (List Int))).bind fun y188 => (if x12_2.length + y188.length < 5864062014805 then (if x45_2 < (l1.length : Int) then ((some (([rdOf ByteArray.empty l1 x45_2] : List ByteArray) : List ByteArray)).bind fun y195 => (if x13_2.length + y195.length < 8796093022208 then (impl_Decode.l0 k2 l1 t164 t167 (x12_2 ++ y188) (x13_2 ++ y195) l2 (l2.length : Int) (wrap64 (x45_2 + 1))) else (none))) else (none)) else (none))) else (none))) = some (r1, r2) := by rw [if_pos rfl] at H; exact H
          clear H
          have H := H1
          clear H1
          by_cases c16 : (x13_2.length : Int) > 0
          ·rw [if_pos c16] at H
           have c16b0 : decide (0 < (x13_2.length : Int)) = true := decide_eq_true c16
           have c16b1 : decide (0 < x13_2.length) = true := decide_eq_true (by omega)
           clear c16
           by_cases c17 : x45_2 < (l1.length : Int)
           ·rw [if_pos c17] at H
            have c17b0 : decide (x45_2 < (l1.length : Int)) = true := decide_eq_true c17
            clear c17
            by_cases c18 : 0 < (x13_2.length : Int)
            ·rw [if_pos c18] at H
             have c18b0 : decide (0 < (x13_2.length : Int)) = true := decide_eq_true c18
             have c18b1 : decide (0 < x13_2.length) = true := decide_eq_true (by omega)
             clear c18
             by_cases c19 : ((rdOf ByteArray.empty l1 x45_2).size : Int) = ((rdOf ByteArray.empty x13_2 0).size : Int)
             ·rw [if_pos c19] at H
              have c19b0 : (((rdOf ByteArray.empty l1 x45_2).size : Int) == ((rdOf ByteArray.empty x13_2 0).size : Int)) = true := beq_iff_eq.mpr c19
              have c19b1 : (((rdOf ByteArray.empty l1 x45_2).size : Int) != ((rdOf ByteArray.empty x13_2 0).size : Int)) = false := bne_eq_false_iff_eq.mpr c19
              have c19b2 : ((rdOf ByteArray.empty l1 x45_2).size == (rdOf ByteArray.empty x13_2 0).size) = true := by first | simpa using c19 | (simp at c19 ⊢; omega)
              clear c19
              by_cases c20 : x45_2 < (t167.length : Int)
              ·rw [if_pos c20] at H
               have c20b0 : decide (x45_2 < (t167.length : Int)) = true := decide_eq_true c20
               clear c20
               obtain ⟨y174, hy174⟩ : ∃ y_ : List (List Int), y_ = (([rd_L1 t167 x45_2] : List (List Int))) := ⟨_, rfl⟩
               replace H : (if x12_2.length + y174.length < 5864062014805 then ((some (([rdOf ByteArray.empty l1 x45_2] : List ByteArray) : List ByteArray)).bind fun y181 => (if x13_2.length + y181.length < 8796093022208 then (impl_Decode.l0 k2 l1 t164 t167 (x12_2 ++ y174) (x13_2 ++ y181) l2 (l2.length : Int) (wrap64 (x45_2 + 1))) else (none))) else (none)) = some (r1, r2) := by first | (rw [hy174]; with_reducible exact H) | (have H2_ := (Option.bind_some _ _).symm.trans H; rw [hy174]; with_reducible exact H2_) | (have H2_ := (Option.bind_some _ _).symm.trans H; with_reducible exact H2_) | with_reducible exact H | (rw [hy174]; exact H) | exact H
               have Ny174 := Aside0.mk hy174
               clear hy174
               by_cases c21 : x12_2.length + y174.length < 5864062014805
               ·rw [if_pos c21] at H
                have LMc21 := Aside0.mk c21
                clear c21
                obtain ⟨y177, hy177⟩ : ∃ y_ : List (List Int), y_ = (x12_2 ++ y174) := ⟨_, rfl⟩
                replace H : ((some (([rdOf ByteArray.empty l1 x45_2] : List ByteArray) : List ByteArray)).bind fun y181 => (if x13_2.length + y181.length < 8796093022208 then (impl_Decode.l0 k2 l1 t164 t167 y177 (x13_2 ++ y181) l2 (l2.length : Int) (wrap64 (x45_2 + 1))) else (none))) = some (r1, r2) := by first | (rw [hy177]; with_reducible exact H) | (have H2_ := (Option.bind_some _ _).symm.trans H; rw [hy177]; with_reducible exact H2_) | (have H2_ := (Option.bind_some _ _).symm.trans H; with_reducible exact H2_) | with_reducible exact H | (rw [hy177]; exact H) | exact H
                have Ny177 := Aside0.mk hy177
                clear hy177
                obtain ⟨y181, hy181⟩ : ∃ y_ : List ByteArray, y_ = (([rdOf ByteArray.empty l1 x45_2] : List ByteArray)) := ⟨_, rfl⟩
                replace H : (if x13_2.length + y181.length < 8796093022208 then (impl_Decode.l0 k2 l1 t164 t167 y177 (x13_2 ++ y181) l2 (l2.length : Int) (wrap64 (x45_2 + 1))) else (none)) = some (r1, r2) := by first | (rw [hy181]; with_reducible exact H) | (have H2_ := (Option.bind_some _ _).symm.trans H; rw [hy181]; with_reducible exact H2_) | (have H2_ := (Option.bind_some _ _).symm.trans H; with_reducible exact H2_) | with_reducible exact H | (rw [hy181]; exact H) | exact H
                have Ny181 := Aside0.mk hy181
                clear hy181
                by_cases c22 : x13_2.length + y181.length < 8796093022208
                ·rw [if_pos c22] at H
                 have LMc22 := Aside0.mk c22
                 clear c22
                 obtain ⟨y184, hy184⟩ : ∃ y_ : List ByteArray, y_ = (x13_2 ++ y181) := ⟨_, rfl⟩
                 replace H : (impl_Decode.l0 k2 l1 t164 t167 y177 y184 l2 (l2.length : Int) (wrap64 (x45_2 + 1))) = some (r1, r2) := by first | (rw [hy184]; with_reducible exact H) | (have H2_ := (Option.bind_some _ _).symm.trans H; rw [hy184]; with_reducible exact H2_) | (have H2_ := (Option.bind_some _ _).symm.trans H; with_reducible exact H2_) | with_reducible exact H | (rw [hy184]; exact H) | exact H
                 have Ny184 := Aside0.mk hy184
                 clear hy184
                 have H' := Aside0.mk H
                 clear H
                 have p170 : 0 ≤ (x45_2 : Int) := of_decide_eq_true (by assumption)
                 have q170 : x45_2 < (l2.length : Int) := of_decide_eq_true (by assumption)
                 obtain ⟨ad170, e170, hx170_0⟩ := Kd.at_bool HR2.out x45_2 p170 q170
                 (try rw [← Nbq14.out] at hx170_0)
                 cases e170
                 replace hx170_0 := (HB.out.cell (World.block_lt_of_cell? w _ hx170_0)).trans hx170_0
                 replace p170 := eq_true p170
                 replace q170 := eq_true q170
                 try go_wp2
                 have n0_ := Aside0.mk (Kd.N_drew HO_11.out)
                 have n1_ := Aside0.mk (Kd.N_drew HO_12.out)
                 have n2_ := Aside0.mk (Kd.R_drew HO_13.out)
                 have n3_ := Aside0.mk (below_drew1 HB.out)
                 clear HO_11
                 clear HO_12
                 clear HO_13
                 clear HB
                 have HO_11 := n0_
                 have HO_12 := n1_
                 have HO_13 := n2_
                 have HB := n3_
                 clear n0_ n1_ n2_ n3_
                 obtain ⟨Ao24, co24, eo24⟩ := Kd.R_slice HO_13.out
                 (first | subst eo24 | (injection eo24 with f1_ f2_ f3_; have f4_ := f1_.symm; have f5_ := f3_.symm; clear f1_ f2_ f3_; subst f4_; subst f5_))
                 have p171 : 0 ≤ (x45_2 : Int) := of_decide_eq_true (by assumption)
                 have q171 : x45_2 < (l1.length : Int) := of_decide_eq_true (by assumption)
                 obtain ⟨ad171, e171, hx171_0⟩ := Kd.at_string HR1.out x45_2 p171 q171
                 have hw171_0 := hx171_0
                 cases e171
                 replace hx171_0 := (HB.out.cell (World.block_lt_of_cell? w _ hx171_0)).trans hx171_0
                 replace p171 := eq_true p171
                 replace q171 := eq_true q171
                 have p172 : 0 ≤ (0 : Int) := (by omega)
                 have q172 : 0 < (x13_2.length : Int) := of_decide_eq_true (by assumption)
                 obtain ⟨ad172, e172, hx172_0⟩ := Kd.at_string (Kd.R_reads' HO_13.out).2.2 0 p172 q172
                 cases e172
                 have qi172 : (0 < x13_2.length) = True := eq_true (by omega)
                 (try rw [show ((0 : Int)).toNat = 0 from rfl] at hx172_0)
                 (try rw [Addr.add_zero'] at hx172_0)
                 replace p172 := eq_true p172
                 replace q172 := eq_true q172
                 refine start_ (n := 15) (S := fun w' => w'.cell? (ad171.add (x45_2).toNat) = some (.string (rdOf ByteArray.empty l1 x45_2)) ∧ w'.cell? ad172 = some (.string (rdOf ByteArray.empty x13_2 0))) (ds := []) #[false, false, false, false, false, false, false, false, false, false, false, false, false, false, false] (by kernel_rfl) rfl rfl ⟨((HB.out.cell (World.block_lt_of_cell? w _ hw171_0)).trans hw171_0), hx172_0⟩ (fun hHeld => ?_); refine with_tabW impl_Decode.tab11 impl_Decode.bits11 (fun HT_ HW_ => ?_)
                 generalize wr.drew = w23 at HO_11 HO_12 HO_13 HB hx171_0 hx172_0 hHeld ⊢
                 refine pure_ (i := 0) (N := some 52) (v := ?_) (a' := ?_) #[true, false, false, false, false, false, false, false, false, false, false, false, false, false, false] rfl rfl (any_of HT_.out (by kernel_rfl)) (fun _ _ _ h => h) (Or.inl ⟨by rfl, ?_⟩) ?_ ?_
                 rotate_left
                 ·intro w'
                  go_simp
                  with_reducible rfl
                 rotate_left
                 ·simp only [Act.put, List.setIfInBounds_toArray, List.set_cons_zero, List.set_cons_succ, i64_w, i32_w]
                  rfl
                 refine pure_ (i := 1) (N := some 53) (v := ?_) (a' := ?_) #[true, true, false, false, false, false, false, false, false, false, false, false, false, false, false] rfl rfl (any_of HT_.out (by kernel_rfl)) (fun _ _ _ h => h) (Or.inl ⟨by rfl, ?_⟩) ?_ ?_
                 rotate_left
                 ·intro w'
                  go_simp
                  with_reducible rfl
                 rotate_left
                 ·simp only [Act.put, List.setIfInBounds_toArray, List.set_cons_zero, List.set_cons_succ, i64_w, i32_w]
                  rfl
                 refine pure_ (i := 2) (N := some 54) (v := ?_) (a' := ?_) #[true, true, true, false, false, false, false, false, false, false, false, false, false, false, false] rfl rfl (any_of HT_.out (by kernel_rfl)) (fun _ _ _ h => h) (Or.inl ⟨by rfl, ?_⟩) ?_ ?_
                 rotate_left
                 ·intro w'
                  go_simp
                  with_reducible rfl
                 rotate_left
                 ·simp only [Act.put, List.setIfInBounds_toArray, List.set_cons_zero, List.set_cons_succ, i64_w, i32_w]
                  rfl
                 refine pure_ (i := 3) (N := some 55) (v := ?_) (a' := ?_) #[true, true, true, true, false, false, false, false, false, false, false, false, false, false, false] rfl rfl (any_of HT_.out (by kernel_rfl)) (fun _ _ _ h => h) (Or.inl ⟨by rfl, ?_⟩) ?_ ?_
                 rotate_left
                 ·intro w'
                  go_simp
                  with_reducible rfl
                 rotate_left
                 ·simp only [Act.put, List.setIfInBounds_toArray, List.set_cons_zero, List.set_cons_succ, i64_w, i32_w]
                  rfl
                 refine pure_ (i := 4) (N := some 56) (v := ?_) (a' := ?_) #[true, true, true, true, true, false, false, false, false, false, false, false, false, false, false] rfl rfl (any_of HT_.out (by kernel_rfl)) (fun _ _ _ h => h) (Or.inl ⟨by rfl, ?_⟩) ?_ ?_
                 rotate_left
                 ·intro w'
                  go_simp
                  with_reducible rfl
                 rotate_left
                 ·simp only [Act.put, List.setIfInBounds_toArray, List.set_cons_zero, List.set_cons_succ, i64_w, i32_w]
                  rfl
                 refine pure_ (i := 5) (N := some 57) (v := ?_) (a' := ?_) #[true, true, true, true, true, true, false, false, false, false, false, false, false, false, false] rfl rfl (any_of HT_.out (by kernel_rfl)) (fun _ _ _ h => h) (Or.inl ⟨by rfl, ?_⟩) ?_ ?_
                 rotate_left
                 ·intro w'
                  go_simp
                  with_reducible rfl
                 rotate_left
                 ·simp only [Act.put, List.setIfInBounds_toArray, List.set_cons_zero, List.set_cons_succ, i64_w, i32_w]
                  rfl
                 refine pure_ (i := 6) (N := some 58) (v := ?_) (a' := ?_) #[true, true, true, true, true, true, true, false, false, false, false, false, false, false, false] rfl rfl (any_of HT_.out (by kernel_rfl)) (fun _ _ _ h => h) (Or.inl ⟨by rfl, ?_⟩) ?_ ?_
                 rotate_left
                 ·intro w'
                  go_simp
                  with_reducible rfl
                 rotate_left
                 ·simp only [Act.put, List.setIfInBounds_toArray, List.set_cons_zero, List.set_cons_succ, i64_w, i32_w]
                  rfl
                 refine pure_ (i := 9) (N := some 61) (v := ?_) (a' := ?_) #[true, true, true, true, true, true, true, false, false, true, false, false, false, false, false] rfl rfl (any_of HT_.out (by kernel_rfl)) (fun _ _ _ h => h) (Or.inl ⟨by rfl, ?_⟩) ?_ ?_
                 rotate_left
                 ·intro w'
                  go_simp
                  with_reducible rfl
                 rotate_left
                 ·simp only [Act.put, List.setIfInBounds_toArray, List.set_cons_zero, List.set_cons_succ, i64_w, i32_w]
                  rfl
                 refine pure_ (i := 10) (N := some 62) (v := ?_) (a' := ?_) #[true, true, true, true, true, true, true, false, false, true, true, false, false, false, false] rfl rfl (any_of HT_.out (by kernel_rfl)) (fun _ _ _ h => h) (Or.inl ⟨by rfl, ?_⟩) ?_ ?_
                 rotate_left
                 ·intro w'
                  go_simp
                  with_reducible rfl
                 rotate_left
                 ·simp only [Act.put, List.setIfInBounds_toArray, List.set_cons_zero, List.set_cons_succ, i64_w, i32_w]
                  rfl
                 refine take_ (i := 7) (N := some 59) (v := ?_) (a' := ?_) #[true, true, true, true, true, true, true, true, false, true, true, false, false, false, false] rfl rfl (take_ofW HT_.out HW_.out (by kernel_rfl)) (fun _ _ _ h => h) (Or.inl ⟨by rfl, ?_⟩) hHeld ?_ ?_
                 rotate_left
                 ·rintro w' ⟨s0, s1⟩
                  go_simp
                  with_reducible rfl
                 rotate_left
                 ·simp only [Act.put, List.setIfInBounds_toArray, List.set_cons_zero, List.set_cons_succ, i64_w, i32_w]
                  rfl
                 refine pure_ (i := 8) (N := some 60) (v := ?_) (a' := ?_) #[true, true, true, true, true, true, true, true, true, true, true, false, false, false, false] rfl rfl (any_of HT_.out (by kernel_rfl)) (fun _ _ _ h => h) (Or.inl ⟨by rfl, ?_⟩) ?_ ?_
                 rotate_left
                 ·intro w'
                  go_simp
                  with_reducible rfl
                 rotate_left
                 ·simp only [Act.put, List.setIfInBounds_toArray, List.set_cons_zero, List.set_cons_succ, i64_w, i32_w]
                  rfl
                 refine take_ (i := 11) (N := some 63) (v := ?_) (a' := ?_) #[true, true, true, true, true, true, true, true, true, true, true, true, false, false, false] rfl rfl (take_ofW HT_.out HW_.out (by kernel_rfl)) (fun _ _ _ h => h) (Or.inl ⟨by rfl, ?_⟩) hHeld ?_ ?_
                 rotate_left
                 ·rintro w' ⟨s0, s1⟩
                  go_simp
                  with_reducible rfl
                 rotate_left
                 ·simp only [Act.put, List.setIfInBounds_toArray, List.set_cons_zero, List.set_cons_succ, i64_w, i32_w]
                  rfl
                 refine pure_ (i := 12) (N := some 64) (v := ?_) (a' := ?_) #[true, true, true, true, true, true, true, true, true, true, true, true, true, false, false] rfl rfl (any_of HT_.out (by kernel_rfl)) (fun _ _ _ h => h) (Or.inl ⟨by rfl, ?_⟩) ?_ ?_
                 rotate_left
                 ·intro w'
                  go_simp
                  with_reducible rfl
                 rotate_left
                 ·simp only [Act.put, List.setIfInBounds_toArray, List.set_cons_zero, List.set_cons_succ, i64_w, i32_w]
                  rfl
                 refine pure_ (i := 13) (N := some 65) (v := ?_) (a' := ?_) #[true, true, true, true, true, true, true, true, true, true, true, true, true, true, false] rfl rfl (any_of HT_.out (by kernel_rfl)) (fun _ _ _ h => h) (Or.inl ⟨by rfl, ?_⟩) ?_ ?_
                 rotate_left
                 ·intro w'
                  go_simp
                  with_reducible rfl
                 rotate_left
                 ·simp only [Act.put, List.setIfInBounds_toArray, List.set_cons_zero, List.set_cons_succ, i64_w, i32_w]
                  rfl
                 refine pure_ (i := 14) (N := some 66) (v := ?_) (a' := ?_) #[true, true, true, true, true, true, true, true, true, true, true, true, true, true, true] rfl rfl (any_of HT_.out (by kernel_rfl)) (fun _ _ _ h => h) (Or.inl ⟨by rfl, ?_⟩) ?_ ?_
                 rotate_left
                 ·intro w'
                  go_simp
                  with_reducible rfl
                 rotate_left
                 ·simp only [Act.put, List.setIfInBounds_toArray, List.set_cons_zero, List.set_cons_succ, i64_w, i32_w]
                  rfl
                 refine done_ (done_of HT_.out (by kernel_rfl)) ?_
                 obtain ⟨Ao25, co25, eo25⟩ := Kd.N_slice HO_12.out
                 subst eo25
                 try go_wp2
                 have n0_ := Aside0.mk (Kd.N_drew HO_11.out)
                 have n1_ := Aside0.mk (Kd.N_drew HO_12.out)
                 have n2_ := Aside0.mk (Kd.R_drew HO_13.out)
                 have n3_ := Aside0.mk (below_drew1 HB.out)
                 clear HO_11
                 clear HO_12
                 clear HO_13
                 clear HB
                 have HO_11 := n0_
                 have HO_12 := n1_
                 have HO_13 := n2_
                 have HB := n3_
                 clear n0_ n1_ n2_ n3_
                 obtain ⟨Ao27, co27, eo27⟩ := Kd.N_slice HO_11.out
                 (first | subst eo27 | (injection eo27 with f1_ f2_ f3_; have f4_ := f1_.symm; have f5_ := f3_.symm; clear f1_ f2_ f3_; subst f4_; subst f5_))
                 have p173 : 0 ≤ (x45_2 : Int) := of_decide_eq_true (by assumption)
                 have q173 : x45_2 < (t167.length : Int) := of_decide_eq_true (by assumption)
                 obtain ⟨ad173, A173_0, c173_0, e173, hx173_0, hl173_0, hi173_0⟩ := at_L1 (Kd.N_reads' HO_11.out).2.2 x45_2 p173 q173
                 cases e173
                 obtain ⟨ce173, hce173, hMe173, hcc173⟩ := Kd.N_get HO_11.out [] x45_2 p173 (by first | exact q173 | exact of_decide_eq_true (by assumption) | (have e_ := (Kd.N_reads' HO_11.out).1; omega))
                 obtain ⟨ua173_0, uc173_0, rfl, ul173_0, ge173_0⟩ := Kd.FK_slice_open hMe173
                 have hv173_0 := hcc173 0 _ rfl
                 rw [Nat.add_zero, show ((Kd.slice 3 (Kd.int .i64))).sz = 1 from rfl, Nat.mul_one] at hv173_0
                 replace hv173_0 := Option.some.inj (hv173_0.symm.trans hx173_0)
                 injection hv173_0 with hva_ hvn_ hvc_
                 rw [hva_] at ge173_0
                 rw [hvc_] at ul173_0
                 have HL173_0 := Aside0.mk (show Kd.V (Kd.int .i64) 3 _ w.heap.size _ _ (rd_L1 t167 x45_2) from Kd.V_mk ul173_0 ge173_0)
                 clear hva_ hvn_ hvc_ ge173_0 ul173_0
                 clear hcc173 hce173
                 have HR173_0 := Aside0.mk hi173_0
                 have HC173_0 := Aside0.mk hl173_0
                 clear hi173_0 hl173_0
                 replace p173 := eq_true p173
                 replace q173 := eq_true q173
                 have p180 : 0 ≤ (x45_2 : Int) := of_decide_eq_true (by assumption)
                 have q180 : x45_2 < (l1.length : Int) := of_decide_eq_true (by assumption)
                 obtain ⟨ad180, e180, hx180_0⟩ := Kd.at_string HR1.out x45_2 p180 q180
                 have hw180_0 := hx180_0
                 obtain rfl : ad171 = ad180 := (by injection e180)
                 replace hx180_0 := (HB.out.cell (World.block_lt_of_cell? w _ hx180_0)).trans hx180_0
                 replace p180 := eq_true p180
                 replace q180 := eq_true q180
                 refine start_ (n := 16) (S := fun w' => w'.cell? (ad173.add (x45_2).toNat) = some (.slice A173_0 (rd_L1 t167 x45_2).length c173_0) ∧ w'.cell? (ad171.add (x45_2).toNat) = some (.string (rdOf ByteArray.empty l1 x45_2))) (ds := []) #[false, false, false, false, false, false, false, false, false, false, false, false, false, false, false, false] (by kernel_rfl) rfl rfl ⟨hx173_0, ((HB.out.cell (World.block_lt_of_cell? w _ hw180_0)).trans hw180_0)⟩ (fun hHeld => ?_); refine with_tabW impl_Decode.tab13 impl_Decode.bits13 (fun HT_ HW_ => ?_)
                 generalize w23.drew = w26 at HO_11 HO_12 HO_13 HB HL173_0 HR173_0 hx173_0 hx180_0 hHeld ⊢
                 refine pure_ (i := 0) (N := some 67) (v := ?_) (a' := ?_) #[true, false, false, false, false, false, false, false, false, false, false, false, false, false, false, false] rfl rfl (any_of HT_.out (by kernel_rfl)) (fun _ _ _ h => h) (Or.inl ⟨by rfl, ?_⟩) ?_ ?_
                 rotate_left
                 ·intro w'
                  go_simp
                  with_reducible rfl
                 rotate_left
                 ·simp only [Act.put, List.setIfInBounds_toArray, List.set_cons_zero, List.set_cons_succ, i64_w, i32_w]
                  rfl
                 refine pure_ (i := 1) (N := some 68) (v := ?_) (a' := ?_) #[true, true, false, false, false, false, false, false, false, false, false, false, false, false, false, false] rfl rfl (any_of HT_.out (by kernel_rfl)) (fun _ _ _ h => h) (Or.inl ⟨by rfl, ?_⟩) ?_ ?_
                 rotate_left
                 ·intro w'
                  go_simp
                  with_reducible rfl
                 rotate_left
                 ·simp only [Act.put, List.setIfInBounds_toArray, List.set_cons_zero, List.set_cons_succ, i64_w, i32_w]
                  rfl
                 refine pure_ (i := 2) (N := some 69) (v := ?_) (a' := ?_) #[true, true, true, false, false, false, false, false, false, false, false, false, false, false, false, false] rfl rfl (any_of HT_.out (by kernel_rfl)) (fun _ _ _ h => h) (Or.inl ⟨by rfl, ?_⟩) ?_ ?_
                 rotate_left
                 ·intro w'
                  go_simp
                  with_reducible rfl
                 rotate_left
                 ·simp only [Act.put, List.setIfInBounds_toArray, List.set_cons_zero, List.set_cons_succ, i64_w, i32_w]
                  rfl
                 refine pure_ (i := 3) (N := some 70) (v := ?_) (a' := ?_) #[true, true, true, true, false, false, false, false, false, false, false, false, false, false, false, false] rfl rfl (any_of HT_.out (by kernel_rfl)) (fun _ _ _ h => h) (Or.inl ⟨by rfl, ?_⟩) ?_ ?_
                 rotate_left
                 ·intro w'
                  go_simp
                  with_reducible rfl
                 rotate_left
                 ·simp only [Act.put, List.setIfInBounds_toArray, List.set_cons_zero, List.set_cons_succ, i64_w, i32_w]
                  rfl
                 refine pure_ (i := 7) (N := some 74) (v := ?_) (a' := ?_) #[true, true, true, true, false, false, false, true, false, false, false, false, false, false, false, false] rfl rfl (any_of HT_.out (by kernel_rfl)) (fun _ _ _ h => h) (Or.inl ⟨by rfl, ?_⟩) ?_ ?_
                 rotate_left
                 ·intro w'
                  go_simp
                  with_reducible rfl
                 rotate_left
                 ·simp only [Act.put, List.setIfInBounds_toArray, List.set_cons_zero, List.set_cons_succ, i64_w, i32_w]
                  rfl
                 refine pure_ (i := 8) (N := some 75) (v := ?_) (a' := ?_) #[true, true, true, true, false, false, false, true, true, false, false, false, false, false, false, false] rfl rfl (any_of HT_.out (by kernel_rfl)) (fun _ _ _ h => h) (Or.inl ⟨by rfl, ?_⟩) ?_ ?_
                 rotate_left
                 ·intro w'
                  go_simp
                  with_reducible rfl
                 rotate_left
                 ·simp only [Act.put, List.setIfInBounds_toArray, List.set_cons_zero, List.set_cons_succ, i64_w, i32_w]
                  rfl
                 refine pure_ (i := 9) (N := some 76) (v := ?_) (a' := ?_) #[true, true, true, true, false, false, false, true, true, true, false, false, false, false, false, false] rfl rfl (any_of HT_.out (by kernel_rfl)) (fun _ _ _ h => h) (Or.inl ⟨by rfl, ?_⟩) ?_ ?_
                 rotate_left
                 ·intro w'
                  go_simp
                  with_reducible rfl
                 rotate_left
                 ·simp only [Act.put, List.setIfInBounds_toArray, List.set_cons_zero, List.set_cons_succ, i64_w, i32_w]
                  rfl
                 refine pure_ (i := 10) (N := some 77) (v := ?_) (a' := ?_) #[true, true, true, true, false, false, false, true, true, true, true, false, false, false, false, false] rfl rfl (any_of HT_.out (by kernel_rfl)) (fun _ _ _ h => h) (Or.inl ⟨by rfl, ?_⟩) ?_ ?_
                 rotate_left
                 ·intro w'
                  go_simp
                  with_reducible rfl
                 rotate_left
                 ·simp only [Act.put, List.setIfInBounds_toArray, List.set_cons_zero, List.set_cons_succ, i64_w, i32_w]
                  rfl
                 refine take_ (i := 4) (N := some 71) (v := ?_) (a' := ?_) #[true, true, true, true, true, false, false, true, true, true, true, false, false, false, false, false] rfl rfl (take_ofW HT_.out HW_.out (by kernel_rfl)) (fun _ _ _ h => h) (Or.inl ⟨by rfl, ?_⟩) hHeld ?_ ?_
                 rotate_left
                 ·rintro w' ⟨s0, s1⟩
                  go_simp
                  with_reducible rfl
                 rotate_left
                 ·simp only [Act.put, List.setIfInBounds_toArray, List.set_cons_zero, List.set_cons_succ, i64_w, i32_w]
                  rfl
                 refine take_ (i := 11) (N := some 78) (v := ?_) (a' := ?_) #[true, true, true, true, true, false, false, true, true, true, true, true, false, false, false, false] rfl rfl (take_ofW HT_.out HW_.out (by kernel_rfl)) (fun _ _ _ h => h) (Or.inl ⟨by rfl, ?_⟩) hHeld ?_ ?_
                 rotate_left
                 ·rintro w' ⟨s0, s1⟩
                  go_simp
                  with_reducible rfl
                 rotate_left
                 ·simp only [Act.put, List.setIfInBounds_toArray, List.set_cons_zero, List.set_cons_succ, i64_w, i32_w]
                  rfl
                 refine join_ (σ := Value × Value × Value) 3 #[true, true, true, true, true, true, true, true, true, true, true, true, true, false, false, false] (fun s_ => [(72, s_.1), (73, s_.2.1), (79, s_.2.2)]) (fun s_ w' => (w'.cell? (ad173.add (x45_2).toNat) = some (.slice A173_0 (rd_L1 t167 x45_2).length c173_0) ∧ w'.cell? (ad171.add (x45_2).toNat) = some (.string (rdOf ByteArray.empty l1 x45_2))) ∧ (Kd.V (Kd.int .i64) 3 w' w.heap.size (fun k_ => some k_ ≠ (s_.1 : Value).ownBlock ∧ some k_ ≠ (s_.2.1 : Value).ownBlock ∧ some k_ ≠ (s_.2.2 : Value).ownBlock ∧ some k_ ≠ (.slice (some ad173) t167.length co27 : Value).ownBlock ∧ some k_ ≠ (.slice (some ad172) x13_2.length co24 : Value).ownBlock) (.slice A173_0 (rd_L1 t167 x45_2).length c173_0) (rd_L1 t167 x45_2)) ∧ (Kd.N (Kd.slice 3 (Kd.int .i64)) 32 w' w.heap.size (fun k_ => some k_ ≠ (s_.2.1 : Value).ownBlock ∧ some k_ ≠ (s_.2.2 : Value).ownBlock ∧ some k_ ≠ (.slice (some ad173) t167.length co27 : Value).ownBlock ∧ some k_ ≠ (.slice (some ad172) x13_2.length co24 : Value).ownBlock) s_.1 y174) ∧ (Kd.N (Kd.slice 3 (Kd.int .i64)) 32 w' w.heap.size (fun k_ => some k_ ≠ (s_.2.2 : Value).ownBlock ∧ some k_ ≠ (.slice (some ad173) t167.length co27 : Value).ownBlock ∧ some k_ ≠ (.slice (some ad172) x13_2.length co24 : Value).ownBlock) s_.2.1 y177) ∧ (Kd.R Kd.string 9 w' w.heap.size (fun k_ => some k_ ≠ (.slice (some ad172) x13_2.length co24 : Value).ownBlock) s_.2.2 y181) ∧ (Kd.N (Kd.slice 3 (Kd.int .i64)) 32 w' w.heap.size (fun k_ => some k_ ≠ (s_.1 : Value).ownBlock ∧ some k_ ≠ (s_.2.1 : Value).ownBlock ∧ some k_ ≠ (s_.2.2 : Value).ownBlock ∧ some k_ ≠ (.slice (some ad172) x13_2.length co24 : Value).ownBlock) (.slice (some ad173) t167.length co27) t167) ∧ (Kd.R Kd.string 9 w' w.heap.size (fun k_ => some k_ ≠ (s_.2.2 : Value).ownBlock) (.slice (some ad172) x13_2.length co24) x13_2) ∧ (Below w.heap.size w w')) ?_ ?_
                 rotate_left
                 ·intro hCont
                  refine two_ (i := 5) (j := 12) (Ni := some 72) (Nj := some 79) #[true, true, true, true, true, true, false, true, true, true, true, true, false, false, false, false] #[true, true, true, true, true, false, false, true, true, true, true, true, true, false, false, false] rfl rfl rfl rfl (two_of HT_.out (by kernel_rfl)) (by decide) (by decide) (fun K hK => ?_) (fun K hK => ?_)
                  ·skip
                   refine Kd.N_lit_step (Kd.slice 3 (Kd.int .i64)) _ 32 ?hg (N' := 72) ?hd (xs := ([rd_L1 t167 x45_2] : List (List Int))) (inner := [.slice A173_0 (rd_L1 t167 x45_2).length c173_0]) (ok := (fun k_ => some k_ ≠ (.slice (some ad173) t167.length co27 : Value).ownBlock ∧ some k_ ≠ (.slice Ao25 x12_2.length co25 : Value).ownBlock ∧ some k_ ≠ (.slice (some ad172) x13_2.length co24 : Value).ownBlock)) (okp := (fun k_ => some k_ ≠ (.slice (some ad173) t167.length co27 : Value).ownBlock ∧ some k_ ≠ (.slice Ao25 x12_2.length co25 : Value).ownBlock ∧ some k_ ≠ (.slice (some ad172) x13_2.length co24 : Value).ownBlock)) ?hr ?hp (fun _ hk => hk) ((show ∀ k_, w26.heap.size ≤ k_ → (fun k_ => some k_ ≠ (.slice (some ad173) t167.length co27 : Value).ownBlock ∧ some k_ ≠ (.slice Ao25 x12_2.length co25 : Value).ownBlock ∧ some k_ ≠ (.slice (some ad172) x13_2.length co24 : Value).ownBlock) k_ from fun k_ hk => ⟨Kd.fresh' (Kd.N_lt (by exact HO_11.out)) k_ hk, Kd.fresh' (Kd.N_lt (by exact HO_12.out)) k_ hk, Kd.fresh' (Kd.R_lt (by exact HO_13.out)) k_ hk⟩) _ (Nat.le_refl _)) (Below.refl _ _) (Nat.le_refl _) (by simp) ?_; (case hd => rfl); (case hg => rfl); (case hr => first | (go_simp; done) | (go_simp; rfl)); (case hp => exact (Reps.one (show Kd.FK (Kd.slice 3 (Kd.int .i64)) _ _ (rd_L1 t167 x45_2) [.slice A173_0 (rd_L1 t167 x45_2).length c173_0] from (Kd.FK_slice_mk (Kd.V_reads' (Kd.V_mono (ok' := (fun k_ => some k_ ≠ (.slice (some ad173) t167.length co27 : Value).ownBlock ∧ some k_ ≠ (.slice Ao25 x12_2.length co25 : Value).ownBlock ∧ some k_ ≠ (.slice (some ad172) x13_2.length co24 : Value).ownBlock)) (HL173_0.out) (fun k_ hk => ⟨hk.2, ⟨hk.1.1, hk.1.2⟩⟩))).2.1 (Kd.V_F (Kd.V_mono (ok' := (fun k_ => some k_ ≠ (.slice (some ad173) t167.length co27 : Value).ownBlock ∧ some k_ ≠ (.slice Ao25 x12_2.length co25 : Value).ownBlock ∧ some k_ ≠ (.slice (some ad172) x13_2.length co24 : Value).ownBlock)) (HL173_0.out) (fun k_ hk => ⟨hk.2, ⟨hk.1.1, hk.1.2⟩⟩))))) (Reps.none _ _)))
                   intro v175 w28 ho29 hb hg_ hnew_
                   have HS0_ := (hb.cell (World.block_lt_of_cell? _ _ (hHeld.1))).trans (hHeld.1)
                   clear hg_ hnew_
                   (first | rw [← Ny174.out] at ho29 | (simp only [Int.reduceToNat] at ho29; rw [← Ny174.out] at ho29))
                   have n0_ := Aside0.mk (Kd.N_elder' (by exact HO_11.out) (Kd.N_base ho29) hb)
                   have n1_ := Aside0.mk (Kd.N_elder' (by exact HO_12.out) (Kd.N_base ho29) hb)
                   have n2_ := Aside0.mk (Kd.R_below (by exact HO_13.out) hb)
                   have n3_ := Aside0.mk (Kd.V_elder' (by exact HL173_0.out) (Kd.N_base ho29) hb)
                   have n4_ := Aside0.mk (Kd.N_lower ho29 (below_size (by repeat (first | exact HB.out | apply below_alloc | apply pw_below_drewN | apply below_drew1))))
                   have n5_ := Aside0.mk (Kd.C_below (by repeat (first | (with_reducible exact HR173_0.out) | (with_reducible refine Kd.C_alloc ?_ _) | (with_reducible refine Kd.C_drewN ?_ _) | (with_reducible refine Kd.C_drew ?_) | exact HR173_0.out)) hb)
                   have n6_ := Aside0.mk (below_step (by repeat (first | exact HB.out | apply below_alloc | apply pw_below_drewN | apply below_drew1)) hb)
                   clear HO_11
                   clear HO_12
                   clear HO_13
                   clear HL173_0
                   clear HR173_0
                   clear HB
                   have HO_11 := n0_
                   have HO_12 := n1_
                   have HO_13 := n2_
                   have HL173_0 := n3_
                   have HO176 := n4_
                   have HR173_0 := n5_
                   have HB := n6_
                   clear n0_ n1_ n2_ n3_ n4_ n5_ n6_
                   clear hb ho29
                   obtain ⟨Ao31, co31, eo31⟩ := Kd.N_slice HO176.out
                   (first | subst eo31 | (injection eo31 with f1_ f2_ f3_; have f4_ := f1_.symm; have f5_ := f3_.symm; clear f1_ f2_ f3_; subst f4_; subst f5_))
                   refine hK.out _ _ ⟨HS0_, ((HB.out.cell (World.block_lt_of_cell? w _ hw180_0)).trans hw180_0)⟩ (fun hHeld => ?_)
                   clear hK K
                   refine norm_ (a' := ?_) ?_ ?_
                   rotate_left
                   ·show Act.put _ (some 72) _ = _
                    simp only [Act.put, List.setIfInBounds_toArray, List.set_cons_zero, List.set_cons_succ, i64_w, i32_w]
                    rfl
                   refine two_ (i := 6) (j := 12) (Ni := some 73) (Nj := some 79) #[true, true, true, true, true, true, true, true, true, true, true, true, false, false, false, false] #[true, true, true, true, true, true, false, true, true, true, true, true, true, false, false, false] rfl rfl rfl rfl (two_of HT_.out (by kernel_rfl)) (by decide) (by decide) (fun K hK => ?_) (fun K hK => ?_)
                   ·skip
                    refine Kd.N_append_rows_step (Kd.slice 3 (Kd.int .i64)) (w0 := w) w.heap.size (by rfl) (.tmp 67) (.tmp 72) 49 32 (.slice none 0 0) 24 rfl Try.underlying49 info32 rfl (by decide) (by omega) (.slice Ao25 x12_2.length co25) x12_2 y174 _ _ _ (fun k_ => some k_ ≠ (.slice (some ad173) t167.length co27 : Value).ownBlock ∧ some k_ ≠ (.slice (some ad172) x13_2.length co24 : Value).ownBlock) (fun k_ => ((fun k_ => some k_ ≠ (.slice (some ad173) t167.length co27 : Value).ownBlock ∧ some k_ ≠ (.slice (some ad172) x13_2.length co24 : Value).ownBlock)) k_ ∧ some k_ ≠ (.slice Ao25 x12_2.length co25 : Value).ownBlock) rfl rfl ?aO ?aR (fun _ hk => hk) ?aF ?aB ?aS ?aL ?_
                    (case aR => exact (by skip; exact Kd.N_F (Kd.N_mono (ok' := (fun k_ => ((fun k_ => some k_ ≠ (.slice (some ad173) t167.length co27 : Value).ownBlock ∧ some k_ ≠ (.slice (some ad172) x13_2.length co24 : Value).ownBlock)) k_ ∧ some k_ ≠ (.slice Ao25 x12_2.length co25 : Value).ownBlock)) (HO176.out) (fun k_ hk => ⟨⟨hk.1, hk.2.2⟩, hk.2.1⟩))))
                    (case aB => exact (by repeat (first | exact HB.out | apply below_alloc | apply pw_below_drewN | apply below_drew1)))
                    (case aF => exact (fun k_ hk => ⟨Kd.fresh' (Kd.N_lt (by exact HO_11.out)) k_ hk, Kd.fresh' (Kd.R_lt (by exact HO_13.out)) k_ hk⟩))
                    (case aO => exact (by exact Kd.N_mono HO_12.out (fun _ hk => ⟨hk.1.1, hk.1.2⟩)))
                    (case aS => exact (below_size (by repeat (first | exact HB.out | apply below_alloc | apply pw_below_drewN | apply below_drew1))))
                    (case aL => have := LMc21.out; omega)
                    intro v178 w30 ho hb hg hat
                    have HS0_ := cell_grown hg (hHeld.1) (by have h_ := HO_11.out.1 _ rfl; first | (rw [add_block]; first | exact h_ | exact h_.1 | exact h_.2 | exact h_.1.1 | exact h_.1.2 | exact h_.2.1 | exact h_.2.2 | exact h_.1.1.1 | exact h_.1.1.2 | exact h_.1.2.1 | exact h_.1.2.2 | exact h_.2.1.1 | exact h_.2.1.2 | exact h_.2.2.1 | exact h_.2.2.2 | exact h_.1.1.1.1 | exact h_.1.1.1.2 | exact h_.1.1.2.1 | exact h_.1.1.2.2 | exact h_.1.2.1.1 | exact h_.1.2.1.2 | exact h_.1.2.2.1 | exact h_.1.2.2.2 | exact h_.2.1.1.1 | exact h_.2.1.1.2 | exact h_.2.1.2.1 | exact h_.2.1.2.2 | exact h_.2.2.1.1 | exact h_.2.2.1.2 | exact h_.2.2.2.1 | exact h_.2.2.2.2) | (show some (Addr.add _ _).block ≠ _; rw [add_block]; first | exact h_ | exact h_.1 | exact h_.2 | exact h_.1.1 | exact h_.1.2 | exact h_.2.1 | exact h_.2.2 | exact h_.1.1.1 | exact h_.1.1.2 | exact h_.1.2.1 | exact h_.1.2.2 | exact h_.2.1.1 | exact h_.2.1.2 | exact h_.2.2.1 | exact h_.2.2.2 | exact h_.1.1.1.1 | exact h_.1.1.1.2 | exact h_.1.1.2.1 | exact h_.1.1.2.2 | exact h_.1.2.1.1 | exact h_.1.2.1.2 | exact h_.1.2.2.1 | exact h_.1.2.2.2 | exact h_.2.1.1.1 | exact h_.2.1.1.2 | exact h_.2.1.2.1 | exact h_.2.1.2.2 | exact h_.2.2.1.1 | exact h_.2.2.1.2 | exact h_.2.2.2.1 | exact h_.2.2.2.2) | (first | exact h_ | exact h_.1 | exact h_.2 | exact h_.1.1 | exact h_.1.2 | exact h_.2.1 | exact h_.2.2 | exact h_.1.1.1 | exact h_.1.1.2 | exact h_.1.2.1 | exact h_.1.2.2 | exact h_.2.1.1 | exact h_.2.1.2 | exact h_.2.2.1 | exact h_.2.2.2 | exact h_.1.1.1.1 | exact h_.1.1.1.2 | exact h_.1.1.2.1 | exact h_.1.1.2.2 | exact h_.1.2.1.1 | exact h_.1.2.1.2 | exact h_.1.2.2.1 | exact h_.1.2.2.2 | exact h_.2.1.1.1 | exact h_.2.1.1.2 | exact h_.2.1.2.1 | exact h_.2.1.2.2 | exact h_.2.2.1.1 | exact h_.2.2.1.2 | exact h_.2.2.2.1 | exact h_.2.2.2.2))
                    rw [← Ny177.out] at ho
                    have n0_ := Aside0.mk (Kd.N_afterv (ok := (fun k_ => some k_ ≠ (.slice (some ad172) x13_2.length co24 : Value).ownBlock ∧ some k_ ≠ (.slice Ao31 y174.length co31 : Value).ownBlock)) (by exact Kd.N_mono HO_11.out (fun _ hk => ⟨⟨hk.1.2, hk.2⟩, hk.1.1⟩)) hg hat)
                    have n1_ := Aside0.mk (Kd.R_over' (by exact HO_13.out) (Kd.N_typed (by exact HO_12.out)) (by decide) hg)
                    have n2_ := Aside0.mk (Kd.V_afterv (ok := (fun k_ => some k_ ≠ (.slice (some ad173) t167.length co27 : Value).ownBlock ∧ some k_ ≠ (.slice (some ad172) x13_2.length co24 : Value).ownBlock ∧ some k_ ≠ (.slice Ao31 y174.length co31 : Value).ownBlock)) (by exact Kd.V_mono HL173_0.out (fun _ hk => ⟨⟨hk.1.2, ⟨hk.1.1.2, hk.2⟩⟩, hk.1.1.1⟩)) hg hat)
                    have n3_ := Aside0.mk (Kd.N_afterv (ok := (fun k_ => some k_ ≠ (.slice (some ad173) t167.length co27 : Value).ownBlock ∧ some k_ ≠ (.slice (some ad172) x13_2.length co24 : Value).ownBlock)) (by exact Kd.N_mono HO176.out (fun _ hk => ⟨⟨hk.1, hk.2.2⟩, hk.2.1⟩)) hg hat)
                    have n4_ := Aside0.mk (hb)
                    have n5_ := Aside0.mk (ho)
                    clear HO_11
                    clear HO_13
                    clear HL173_0
                    clear HO176
                    clear HB
                    clear HO_12
                    have HO_11 := n0_
                    have HO_13 := n1_
                    have HL173_0 := n2_
                    have HO176 := n3_
                    have HB := n4_
                    have HO179 := n5_
                    clear n0_ n1_ n2_ n3_ n4_ n5_
                    clear ho hb hg hat
                    refine hK.out _ _ ⟨HS0_, ((HB.out.cell (World.block_lt_of_cell? w _ hw180_0)).trans hw180_0)⟩ (fun hHeld => ?_)
                    clear hK K
                    refine norm_ (a' := ?_) ?_ ?_
                    rotate_left
                    ·show Act.put _ (some 73) _ = _
                     simp only [Act.put, List.setIfInBounds_toArray, List.set_cons_zero, List.set_cons_succ, i64_w, i32_w]
                     rfl
                    refine one_ (i := 12) (N := some 79) #[true, true, true, true, true, true, true, true, true, true, true, true, true, false, false, false] rfl rfl (one_of HT_.out (by kernel_rfl)) (by decide) (fun K hK => ?_)
                    refine Kd.R_lit_step Kd.string _ 9 ?hg (N := 79) ?hd (xs := ([rdOf ByteArray.empty l1 x45_2] : List ByteArray)) (inner := [.string (rdOf ByteArray.empty l1 x45_2)]) (ok := fun _ => True) (okp := fun _ => True) ?hr ?hp (fun _ hk => hk) trivial (Below.refl _ _) (Nat.le_refl _) (by simp) ?_; (case hd => rfl); (case hg => rfl); (case hr => first | (go_simp; done) | (go_simp; rfl)); (case hp => exact (Reps.one (show Kd.M Kd.string _ _ _ (rdOf ByteArray.empty l1 x45_2) [.string (rdOf ByteArray.empty l1 x45_2)] from rfl) (Reps.none _ _)))
                    intro v182 w32 ho33 hb hg_ hnew_
                    have HS0_ := (hb.cell (World.block_lt_of_cell? _ _ (hHeld.1))).trans (hHeld.1)
                    clear hg_ hnew_
                    (first | rw [← Ny181.out] at ho33 | (simp only [Int.reduceToNat] at ho33; rw [← Ny181.out] at ho33))
                    have n0_ := Aside0.mk (Kd.N_elder' (by exact HO_11.out) (Kd.R_base ho33) hb)
                    have n1_ := Aside0.mk (Kd.R_elder' (by exact HO_13.out) (Kd.R_base ho33) hb)
                    have n2_ := Aside0.mk (Kd.V_elder' (by exact HL173_0.out) (Kd.R_base ho33) hb)
                    have n3_ := Aside0.mk (Kd.N_elder' (by exact HO176.out) (Kd.R_base ho33) hb)
                    have n4_ := Aside0.mk (Kd.N_elder' (by exact HO179.out) (Kd.R_base ho33) hb)
                    have n5_ := Aside0.mk (Kd.R_lower (Kd.R_new' ho33 (Kd.R_lt (by exact HO_13.out))) (below_size (by repeat (first | exact HB.out | apply below_alloc | apply pw_below_drewN | apply below_drew1))))
                    have n6_ := Aside0.mk (below_step (by repeat (first | exact HB.out | apply below_alloc | apply pw_below_drewN | apply below_drew1)) hb)
                    clear HO_11
                    clear HO_13
                    clear HL173_0
                    clear HO176
                    clear HO179
                    clear HB
                    have HO_11 := n0_
                    have HO_13 := n1_
                    have HL173_0 := n2_
                    have HO176 := n3_
                    have HO179 := n4_
                    have HO183 := n5_
                    have HB := n6_
                    clear n0_ n1_ n2_ n3_ n4_ n5_ n6_
                    clear hb ho33
                    refine hK.out _ _ ⟨HS0_, ((HB.out.cell (World.block_lt_of_cell? w _ hw180_0)).trans hw180_0)⟩ (fun hHeld => ?_)
                    clear hK K
                    refine norm_ (a' := ?_) ?_ ?_
                    rotate_left
                    ·show Act.put _ (some 79) _ = _
                     simp only [Act.put, List.setIfInBounds_toArray, List.set_cons_zero, List.set_cons_succ, i64_w, i32_w]
                     rfl
                    exact norm_ (by simp only [putAll, Act.put, List.setIfInBounds_toArray, List.set_cons_zero, List.set_cons_succ]) (hCont (.slice Ao31 y174.length co31, v178, v182) _ ⟨hHeld, (by exact Kd.V_mono HL173_0.out (fun _ hk => ⟨hk.1.1.2.2, ⟨hk.1.2, ⟨hk.2, ⟨hk.1.1.1, hk.1.1.2.1⟩⟩⟩⟩)), (by exact Kd.N_mono HO176.out (fun _ hk => ⟨hk.1.2, ⟨hk.2, ⟨hk.1.1.1, hk.1.1.2⟩⟩⟩)), (by exact Kd.N_mono HO179.out (fun _ hk => ⟨hk.2, ⟨hk.1.1, hk.1.2⟩⟩)), (by exact Kd.R_mono HO183.out (fun _ hk => hk.2)), (by exact Kd.N_mono HO_11.out (fun _ hk => ⟨hk.1.1.2, ⟨hk.1.2, ⟨hk.2, hk.1.1.1⟩⟩⟩)), (by exact Kd.R_mono HO_13.out (fun _ hk => hk.2)), (by repeat (first | exact HB.out | apply below_alloc | apply pw_below_drewN | apply below_drew1))⟩)
                   ·skip
                    refine Kd.R_lit_step Kd.string _ 9 ?hg (N := 79) ?hd (xs := ([rdOf ByteArray.empty l1 x45_2] : List ByteArray)) (inner := [.string (rdOf ByteArray.empty l1 x45_2)]) (ok := fun _ => True) (okp := fun _ => True) ?hr ?hp (fun _ hk => hk) trivial (Below.refl _ _) (Nat.le_refl _) (by simp) ?_; (case hd => rfl); (case hg => rfl); (case hr => first | (go_simp; done) | (go_simp; rfl)); (case hp => exact (Reps.one (show Kd.M Kd.string _ _ _ (rdOf ByteArray.empty l1 x45_2) [.string (rdOf ByteArray.empty l1 x45_2)] from rfl) (Reps.none _ _)))
                    intro v182 w30 ho31 hb hg_ hnew_
                    have HS0_ := (hb.cell (World.block_lt_of_cell? _ _ (hHeld.1))).trans (hHeld.1)
                    clear hg_ hnew_
                    (first | rw [← Ny181.out] at ho31 | (simp only [Int.reduceToNat] at ho31; rw [← Ny181.out] at ho31))
                    have n0_ := Aside0.mk (Kd.N_elder' (by exact HO_11.out) (Kd.R_base ho31) hb)
                    have n1_ := Aside0.mk (Kd.N_elder' (by exact HO_12.out) (Kd.R_base ho31) hb)
                    have n2_ := Aside0.mk (Kd.R_elder' (by exact HO_13.out) (Kd.R_base ho31) hb)
                    have n3_ := Aside0.mk (Kd.V_elder' (by exact HL173_0.out) (Kd.R_base ho31) hb)
                    have n4_ := Aside0.mk (Kd.N_elder' (by exact HO176.out) (Kd.R_base ho31) hb)
                    have n5_ := Aside0.mk (Kd.R_lower (Kd.R_new' ho31 (Kd.R_lt (by exact HO_13.out))) (below_size (by repeat (first | exact HB.out | apply below_alloc | apply pw_below_drewN | apply below_drew1))))
                    have n6_ := Aside0.mk (Kd.C_below (by repeat (first | (with_reducible exact HR173_0.out) | (with_reducible refine Kd.C_alloc ?_ _) | (with_reducible refine Kd.C_drewN ?_ _) | (with_reducible refine Kd.C_drew ?_) | exact HR173_0.out)) hb)
                    have n7_ := Aside0.mk (below_step (by repeat (first | exact HB.out | apply below_alloc | apply pw_below_drewN | apply below_drew1)) hb)
                    clear HO_11
                    clear HO_12
                    clear HO_13
                    clear HL173_0
                    clear HO176
                    clear HR173_0
                    clear HB
                    have HO_11 := n0_
                    have HO_12 := n1_
                    have HO_13 := n2_
                    have HL173_0 := n3_
                    have HO176 := n4_
                    have HO183 := n5_
                    have HR173_0 := n6_
                    have HB := n7_
                    clear n0_ n1_ n2_ n3_ n4_ n5_ n6_ n7_
                    clear hb ho31
                    obtain ⟨Ao33, co33, eo33⟩ := Kd.N_slice HO176.out
                    (first | subst eo33 | (injection eo33 with f1_ f2_ f3_; have f4_ := f1_.symm; have f5_ := f3_.symm; clear f1_ f2_ f3_; subst f4_; subst f5_))
                    refine hK.out _ _ ⟨HS0_, ((HB.out.cell (World.block_lt_of_cell? w _ hw180_0)).trans hw180_0)⟩ (fun hHeld => ?_)
                    clear hK K
                    refine norm_ (a' := ?_) ?_ ?_
                    rotate_left
                    ·show Act.put _ (some 79) _ = _
                     simp only [Act.put, List.setIfInBounds_toArray, List.set_cons_zero, List.set_cons_succ, i64_w, i32_w]
                     rfl
                    refine one_ (i := 6) (N := some 73) #[true, true, true, true, true, true, true, true, true, true, true, true, true, false, false, false] rfl rfl (one_of HT_.out (by kernel_rfl)) (by decide) (fun K hK => ?_)
                    refine Kd.N_append_rows_step (Kd.slice 3 (Kd.int .i64)) (w0 := w) w.heap.size (by rfl) (.tmp 67) (.tmp 72) 49 32 (.slice none 0 0) 24 rfl Try.underlying49 info32 rfl (by decide) (by omega) (.slice Ao25 x12_2.length co25) x12_2 y174 _ _ _ (fun k_ => some k_ ≠ (.slice (some ad173) t167.length co27 : Value).ownBlock ∧ some k_ ≠ (.slice (some ad172) x13_2.length co24 : Value).ownBlock ∧ some k_ ≠ (v182 : Value).ownBlock) (fun k_ => ((fun k_ => some k_ ≠ (.slice (some ad173) t167.length co27 : Value).ownBlock ∧ some k_ ≠ (.slice (some ad172) x13_2.length co24 : Value).ownBlock ∧ some k_ ≠ (v182 : Value).ownBlock)) k_ ∧ some k_ ≠ (.slice Ao25 x12_2.length co25 : Value).ownBlock) rfl rfl ?aO ?aR (fun _ hk => hk) ?aF ?aB ?aS ?aL ?_
                    (case aR => exact (by skip; exact Kd.N_F (Kd.N_mono (ok' := (fun k_ => ((fun k_ => some k_ ≠ (.slice (some ad173) t167.length co27 : Value).ownBlock ∧ some k_ ≠ (.slice (some ad172) x13_2.length co24 : Value).ownBlock ∧ some k_ ≠ (v182 : Value).ownBlock)) k_ ∧ some k_ ≠ (.slice Ao25 x12_2.length co25 : Value).ownBlock)) (HO176.out) (fun k_ hk => ⟨⟨hk.1.1, ⟨hk.1.2.2, hk.2⟩⟩, hk.1.2.1⟩))))
                    (case aB => exact (by repeat (first | exact HB.out | apply below_alloc | apply pw_below_drewN | apply below_drew1)))
                    (case aF => exact (fun k_ hk => ⟨Kd.fresh' (Kd.N_lt (by exact HO_11.out)) k_ hk, Kd.fresh' (Kd.R_lt (by exact HO_13.out)) k_ hk, Kd.fresh' (Kd.R_lt (by exact HO183.out)) k_ hk⟩))
                    (case aO => exact (by exact Kd.N_mono HO_12.out (fun _ hk => ⟨hk.1.1.1, ⟨hk.1.1.2, hk.2⟩⟩)))
                    (case aS => exact (below_size (by repeat (first | exact HB.out | apply below_alloc | apply pw_below_drewN | apply below_drew1))))
                    (case aL => have := LMc21.out; omega)
                    intro v178 w32 ho hb hg hat
                    have HS0_ := cell_grown hg (hHeld.1) (by have h_ := HO_11.out.1 _ rfl; first | (rw [add_block]; first | exact h_ | exact h_.1 | exact h_.2 | exact h_.1.1 | exact h_.1.2 | exact h_.2.1 | exact h_.2.2 | exact h_.1.1.1 | exact h_.1.1.2 | exact h_.1.2.1 | exact h_.1.2.2 | exact h_.2.1.1 | exact h_.2.1.2 | exact h_.2.2.1 | exact h_.2.2.2 | exact h_.1.1.1.1 | exact h_.1.1.1.2 | exact h_.1.1.2.1 | exact h_.1.1.2.2 | exact h_.1.2.1.1 | exact h_.1.2.1.2 | exact h_.1.2.2.1 | exact h_.1.2.2.2 | exact h_.2.1.1.1 | exact h_.2.1.1.2 | exact h_.2.1.2.1 | exact h_.2.1.2.2 | exact h_.2.2.1.1 | exact h_.2.2.1.2 | exact h_.2.2.2.1 | exact h_.2.2.2.2) | (show some (Addr.add _ _).block ≠ _; rw [add_block]; first | exact h_ | exact h_.1 | exact h_.2 | exact h_.1.1 | exact h_.1.2 | exact h_.2.1 | exact h_.2.2 | exact h_.1.1.1 | exact h_.1.1.2 | exact h_.1.2.1 | exact h_.1.2.2 | exact h_.2.1.1 | exact h_.2.1.2 | exact h_.2.2.1 | exact h_.2.2.2 | exact h_.1.1.1.1 | exact h_.1.1.1.2 | exact h_.1.1.2.1 | exact h_.1.1.2.2 | exact h_.1.2.1.1 | exact h_.1.2.1.2 | exact h_.1.2.2.1 | exact h_.1.2.2.2 | exact h_.2.1.1.1 | exact h_.2.1.1.2 | exact h_.2.1.2.1 | exact h_.2.1.2.2 | exact h_.2.2.1.1 | exact h_.2.2.1.2 | exact h_.2.2.2.1 | exact h_.2.2.2.2) | (first | exact h_ | exact h_.1 | exact h_.2 | exact h_.1.1 | exact h_.1.2 | exact h_.2.1 | exact h_.2.2 | exact h_.1.1.1 | exact h_.1.1.2 | exact h_.1.2.1 | exact h_.1.2.2 | exact h_.2.1.1 | exact h_.2.1.2 | exact h_.2.2.1 | exact h_.2.2.2 | exact h_.1.1.1.1 | exact h_.1.1.1.2 | exact h_.1.1.2.1 | exact h_.1.1.2.2 | exact h_.1.2.1.1 | exact h_.1.2.1.2 | exact h_.1.2.2.1 | exact h_.1.2.2.2 | exact h_.2.1.1.1 | exact h_.2.1.1.2 | exact h_.2.1.2.1 | exact h_.2.1.2.2 | exact h_.2.2.1.1 | exact h_.2.2.1.2 | exact h_.2.2.2.1 | exact h_.2.2.2.2))
                    rw [← Ny177.out] at ho
                    have n0_ := Aside0.mk (Kd.N_afterv (ok := (fun k_ => some k_ ≠ (.slice (some ad172) x13_2.length co24 : Value).ownBlock ∧ some k_ ≠ (.slice Ao33 y174.length co33 : Value).ownBlock ∧ some k_ ≠ (v182 : Value).ownBlock)) (by exact Kd.N_mono HO_11.out (fun _ hk => ⟨⟨hk.1.1.2, ⟨hk.1.2, hk.2⟩⟩, hk.1.1.1⟩)) hg hat)
                    have n1_ := Aside0.mk (Kd.R_over' (by exact HO_13.out) (Kd.N_typed (by exact HO_12.out)) (by decide) hg)
                    have n2_ := Aside0.mk (Kd.V_afterv (ok := (fun k_ => some k_ ≠ (.slice (some ad173) t167.length co27 : Value).ownBlock ∧ some k_ ≠ (.slice (some ad172) x13_2.length co24 : Value).ownBlock ∧ some k_ ≠ (.slice Ao33 y174.length co33 : Value).ownBlock ∧ some k_ ≠ (v182 : Value).ownBlock)) (by exact Kd.V_mono HL173_0.out (fun _ hk => ⟨⟨hk.1.1.2, ⟨hk.1.1.1.2, ⟨hk.1.2, hk.2⟩⟩⟩, hk.1.1.1.1⟩)) hg hat)
                    have n3_ := Aside0.mk (Kd.N_afterv (ok := (fun k_ => some k_ ≠ (.slice (some ad173) t167.length co27 : Value).ownBlock ∧ some k_ ≠ (.slice (some ad172) x13_2.length co24 : Value).ownBlock ∧ some k_ ≠ (v182 : Value).ownBlock)) (by exact Kd.N_mono HO176.out (fun _ hk => ⟨⟨hk.1.1, ⟨hk.1.2.2, hk.2⟩⟩, hk.1.2.1⟩)) hg hat)
                    have n4_ := Aside0.mk (Kd.R_over' (by exact HO183.out) (Kd.N_typed (by exact HO_12.out)) (by decide) hg)
                    have n5_ := Aside0.mk (hb)
                    have n6_ := Aside0.mk (ho)
                    clear HO_11
                    clear HO_13
                    clear HL173_0
                    clear HO176
                    clear HO183
                    clear HB
                    clear HO_12
                    have HO_11 := n0_
                    have HO_13 := n1_
                    have HL173_0 := n2_
                    have HO176 := n3_
                    have HO183 := n4_
                    have HB := n5_
                    have HO179 := n6_
                    clear n0_ n1_ n2_ n3_ n4_ n5_ n6_
                    clear ho hb hg hat
                    refine hK.out _ _ ⟨HS0_, ((HB.out.cell (World.block_lt_of_cell? w _ hw180_0)).trans hw180_0)⟩ (fun hHeld => ?_)
                    clear hK K
                    refine norm_ (a' := ?_) ?_ ?_
                    rotate_left
                    ·show Act.put _ (some 73) _ = _
                     simp only [Act.put, List.setIfInBounds_toArray, List.set_cons_zero, List.set_cons_succ, i64_w, i32_w]
                     rfl
                    exact norm_ (by simp only [putAll, Act.put, List.setIfInBounds_toArray, List.set_cons_zero, List.set_cons_succ]) (hCont (.slice Ao33 y174.length co33, v178, v182) _ ⟨hHeld, (by exact Kd.V_mono HL173_0.out (fun _ hk => ⟨hk.1.2.2.1, ⟨hk.2, ⟨hk.1.2.2.2, ⟨hk.1.1, hk.1.2.1⟩⟩⟩⟩)), (by exact Kd.N_mono HO176.out (fun _ hk => ⟨hk.2, ⟨hk.1.2.2, ⟨hk.1.1, hk.1.2.1⟩⟩⟩)), (by exact Kd.N_mono HO179.out (fun _ hk => ⟨hk.2.2, ⟨hk.1, hk.2.1⟩⟩)), (by exact Kd.R_mono HO183.out (fun _ hk => hk.2)), (by exact Kd.N_mono HO_11.out (fun _ hk => ⟨hk.1.2.1, ⟨hk.2, ⟨hk.1.2.2, hk.1.1⟩⟩⟩)), (by exact Kd.R_mono HO_13.out (fun _ hk => hk.2)), (by repeat (first | exact HB.out | apply below_alloc | apply pw_below_drewN | apply below_drew1))⟩)
                  ·skip
                   refine Kd.R_lit_step Kd.string _ 9 ?hg (N := 79) ?hd (xs := ([rdOf ByteArray.empty l1 x45_2] : List ByteArray)) (inner := [.string (rdOf ByteArray.empty l1 x45_2)]) (ok := fun _ => True) (okp := fun _ => True) ?hr ?hp (fun _ hk => hk) trivial (Below.refl _ _) (Nat.le_refl _) (by simp) ?_; (case hd => rfl); (case hg => rfl); (case hr => first | (go_simp; done) | (go_simp; rfl)); (case hp => exact (Reps.one (show Kd.M Kd.string _ _ _ (rdOf ByteArray.empty l1 x45_2) [.string (rdOf ByteArray.empty l1 x45_2)] from rfl) (Reps.none _ _)))
                   intro v182 w28 ho29 hb hg_ hnew_
                   have HS0_ := (hb.cell (World.block_lt_of_cell? _ _ (hHeld.1))).trans (hHeld.1)
                   clear hg_ hnew_
                   (first | rw [← Ny181.out] at ho29 | (simp only [Int.reduceToNat] at ho29; rw [← Ny181.out] at ho29))
                   have n0_ := Aside0.mk (Kd.N_elder' (by exact HO_11.out) (Kd.R_base ho29) hb)
                   have n1_ := Aside0.mk (Kd.N_elder' (by exact HO_12.out) (Kd.R_base ho29) hb)
                   have n2_ := Aside0.mk (Kd.R_elder' (by exact HO_13.out) (Kd.R_base ho29) hb)
                   have n3_ := Aside0.mk (Kd.V_elder' (by exact HL173_0.out) (Kd.R_base ho29) hb)
                   have n4_ := Aside0.mk (Kd.R_lower (Kd.R_new' ho29 (Kd.R_lt (by exact HO_13.out))) (below_size (by repeat (first | exact HB.out | apply below_alloc | apply pw_below_drewN | apply below_drew1))))
                   have n5_ := Aside0.mk (Kd.C_below (by repeat (first | (with_reducible exact HR173_0.out) | (with_reducible refine Kd.C_alloc ?_ _) | (with_reducible refine Kd.C_drewN ?_ _) | (with_reducible refine Kd.C_drew ?_) | exact HR173_0.out)) hb)
                   have n6_ := Aside0.mk (below_step (by repeat (first | exact HB.out | apply below_alloc | apply pw_below_drewN | apply below_drew1)) hb)
                   clear HO_11
                   clear HO_12
                   clear HO_13
                   clear HL173_0
                   clear HR173_0
                   clear HB
                   have HO_11 := n0_
                   have HO_12 := n1_
                   have HO_13 := n2_
                   have HL173_0 := n3_
                   have HO183 := n4_
                   have HR173_0 := n5_
                   have HB := n6_
                   clear n0_ n1_ n2_ n3_ n4_ n5_ n6_
                   clear hb ho29
                   refine hK.out _ _ ⟨HS0_, ((HB.out.cell (World.block_lt_of_cell? w _ hw180_0)).trans hw180_0)⟩ (fun hHeld => ?_)
                   clear hK K
                   refine norm_ (a' := ?_) ?_ ?_
                   rotate_left
                   ·show Act.put _ (some 79) _ = _
                    simp only [Act.put, List.setIfInBounds_toArray, List.set_cons_zero, List.set_cons_succ, i64_w, i32_w]
                    rfl
                   refine one_ (i := 5) (N := some 72) #[true, true, true, true, true, true, false, true, true, true, true, true, true, false, false, false] rfl rfl (one_of HT_.out (by kernel_rfl)) (by decide) (fun K hK => ?_)
                   refine Kd.N_lit_step (Kd.slice 3 (Kd.int .i64)) _ 32 ?hg (N' := 72) ?hd (xs := ([rd_L1 t167 x45_2] : List (List Int))) (inner := [.slice A173_0 (rd_L1 t167 x45_2).length c173_0]) (ok := (fun k_ => some k_ ≠ (.slice (some ad173) t167.length co27 : Value).ownBlock ∧ some k_ ≠ (.slice Ao25 x12_2.length co25 : Value).ownBlock ∧ some k_ ≠ (.slice (some ad172) x13_2.length co24 : Value).ownBlock ∧ some k_ ≠ (v182 : Value).ownBlock)) (okp := (fun k_ => some k_ ≠ (.slice (some ad173) t167.length co27 : Value).ownBlock ∧ some k_ ≠ (.slice Ao25 x12_2.length co25 : Value).ownBlock ∧ some k_ ≠ (.slice (some ad172) x13_2.length co24 : Value).ownBlock ∧ some k_ ≠ (v182 : Value).ownBlock)) ?hr ?hp (fun _ hk => hk) ((show ∀ k_, w28.heap.size ≤ k_ → (fun k_ => some k_ ≠ (.slice (some ad173) t167.length co27 : Value).ownBlock ∧ some k_ ≠ (.slice Ao25 x12_2.length co25 : Value).ownBlock ∧ some k_ ≠ (.slice (some ad172) x13_2.length co24 : Value).ownBlock ∧ some k_ ≠ (v182 : Value).ownBlock) k_ from fun k_ hk => ⟨Kd.fresh' (Kd.N_lt (by exact HO_11.out)) k_ hk, Kd.fresh' (Kd.N_lt (by exact HO_12.out)) k_ hk, Kd.fresh' (Kd.R_lt (by exact HO_13.out)) k_ hk, Kd.fresh' (Kd.R_lt (by exact HO183.out)) k_ hk⟩) _ (Nat.le_refl _)) (Below.refl _ _) (Nat.le_refl _) (by simp) ?_; (case hd => rfl); (case hg => rfl); (case hr => first | (go_simp; done) | (go_simp; rfl)); (case hp => exact (Reps.one (show Kd.FK (Kd.slice 3 (Kd.int .i64)) _ _ (rd_L1 t167 x45_2) [.slice A173_0 (rd_L1 t167 x45_2).length c173_0] from (Kd.FK_slice_mk (Kd.V_reads' (Kd.V_mono (ok' := (fun k_ => some k_ ≠ (.slice (some ad173) t167.length co27 : Value).ownBlock ∧ some k_ ≠ (.slice Ao25 x12_2.length co25 : Value).ownBlock ∧ some k_ ≠ (.slice (some ad172) x13_2.length co24 : Value).ownBlock ∧ some k_ ≠ (v182 : Value).ownBlock)) (HL173_0.out) (fun k_ hk => ⟨hk.1.2, ⟨hk.1.1.1, ⟨hk.1.1.2, hk.2⟩⟩⟩))).2.1 (Kd.V_F (Kd.V_mono (ok' := (fun k_ => some k_ ≠ (.slice (some ad173) t167.length co27 : Value).ownBlock ∧ some k_ ≠ (.slice Ao25 x12_2.length co25 : Value).ownBlock ∧ some k_ ≠ (.slice (some ad172) x13_2.length co24 : Value).ownBlock ∧ some k_ ≠ (v182 : Value).ownBlock)) (HL173_0.out) (fun k_ hk => ⟨hk.1.2, ⟨hk.1.1.1, ⟨hk.1.1.2, hk.2⟩⟩⟩))))) (Reps.none _ _)))
                   intro v175 w30 ho31 hb hg_ hnew_
                   have HS0_ := (hb.cell (World.block_lt_of_cell? _ _ (hHeld.1))).trans (hHeld.1)
                   clear hg_ hnew_
                   (first | rw [← Ny174.out] at ho31 | (simp only [Int.reduceToNat] at ho31; rw [← Ny174.out] at ho31))
                   have n0_ := Aside0.mk (Kd.N_elder' (by exact HO_11.out) (Kd.N_base ho31) hb)
                   have n1_ := Aside0.mk (Kd.N_elder' (by exact HO_12.out) (Kd.N_base ho31) hb)
                   have n2_ := Aside0.mk (Kd.R_below (by exact HO_13.out) hb)
                   have n3_ := Aside0.mk (Kd.V_elder' (by exact HL173_0.out) (Kd.N_base ho31) hb)
                   have n4_ := Aside0.mk (Kd.R_below (by exact HO183.out) hb)
                   have n5_ := Aside0.mk (Kd.N_lower ho31 (below_size (by repeat (first | exact HB.out | apply below_alloc | apply pw_below_drewN | apply below_drew1))))
                   have n6_ := Aside0.mk (Kd.C_below (by repeat (first | (with_reducible exact HR173_0.out) | (with_reducible refine Kd.C_alloc ?_ _) | (with_reducible refine Kd.C_drewN ?_ _) | (with_reducible refine Kd.C_drew ?_) | exact HR173_0.out)) hb)
                   have n7_ := Aside0.mk (below_step (by repeat (first | exact HB.out | apply below_alloc | apply pw_below_drewN | apply below_drew1)) hb)
                   clear HO_11
                   clear HO_12
                   clear HO_13
                   clear HL173_0
                   clear HO183
                   clear HR173_0
                   clear HB
                   have HO_11 := n0_
                   have HO_12 := n1_
                   have HO_13 := n2_
                   have HL173_0 := n3_
                   have HO183 := n4_
                   have HO176 := n5_
                   have HR173_0 := n6_
                   have HB := n7_
                   clear n0_ n1_ n2_ n3_ n4_ n5_ n6_ n7_
                   clear hb ho31
                   obtain ⟨Ao33, co33, eo33⟩ := Kd.N_slice HO176.out
                   (first | subst eo33 | (injection eo33 with f1_ f2_ f3_; have f4_ := f1_.symm; have f5_ := f3_.symm; clear f1_ f2_ f3_; subst f4_; subst f5_))
                   refine hK.out _ _ ⟨HS0_, ((HB.out.cell (World.block_lt_of_cell? w _ hw180_0)).trans hw180_0)⟩ (fun hHeld => ?_)
                   clear hK K
                   refine norm_ (a' := ?_) ?_ ?_
                   rotate_left
                   ·show Act.put _ (some 72) _ = _
                    simp only [Act.put, List.setIfInBounds_toArray, List.set_cons_zero, List.set_cons_succ, i64_w, i32_w]
                    rfl
                   refine one_ (i := 6) (N := some 73) #[true, true, true, true, true, true, true, true, true, true, true, true, true, false, false, false] rfl rfl (one_of HT_.out (by kernel_rfl)) (by decide) (fun K hK => ?_)
                   refine Kd.N_append_rows_step (Kd.slice 3 (Kd.int .i64)) (w0 := w) w.heap.size (by rfl) (.tmp 67) (.tmp 72) 49 32 (.slice none 0 0) 24 rfl Try.underlying49 info32 rfl (by decide) (by omega) (.slice Ao25 x12_2.length co25) x12_2 y174 _ _ _ (fun k_ => some k_ ≠ (.slice (some ad173) t167.length co27 : Value).ownBlock ∧ some k_ ≠ (.slice (some ad172) x13_2.length co24 : Value).ownBlock ∧ some k_ ≠ (v182 : Value).ownBlock) (fun k_ => ((fun k_ => some k_ ≠ (.slice (some ad173) t167.length co27 : Value).ownBlock ∧ some k_ ≠ (.slice (some ad172) x13_2.length co24 : Value).ownBlock ∧ some k_ ≠ (v182 : Value).ownBlock)) k_ ∧ some k_ ≠ (.slice Ao25 x12_2.length co25 : Value).ownBlock) rfl rfl ?aO ?aR (fun _ hk => hk) ?aF ?aB ?aS ?aL ?_
                   (case aR => exact (by skip; exact Kd.N_F (Kd.N_mono (ok' := (fun k_ => ((fun k_ => some k_ ≠ (.slice (some ad173) t167.length co27 : Value).ownBlock ∧ some k_ ≠ (.slice (some ad172) x13_2.length co24 : Value).ownBlock ∧ some k_ ≠ (v182 : Value).ownBlock)) k_ ∧ some k_ ≠ (.slice Ao25 x12_2.length co25 : Value).ownBlock)) (HO176.out) (fun k_ hk => ⟨⟨hk.1, ⟨hk.2.2.1, hk.2.2.2⟩⟩, hk.2.1⟩))))
                   (case aB => exact (by repeat (first | exact HB.out | apply below_alloc | apply pw_below_drewN | apply below_drew1)))
                   (case aF => exact (fun k_ hk => ⟨Kd.fresh' (Kd.N_lt (by exact HO_11.out)) k_ hk, Kd.fresh' (Kd.R_lt (by exact HO_13.out)) k_ hk, Kd.fresh' (Kd.R_lt (by exact HO183.out)) k_ hk⟩))
                   (case aO => exact (by exact Kd.N_mono HO_12.out (fun _ hk => ⟨hk.1.1.1, ⟨hk.1.1.2, hk.1.2⟩⟩)))
                   (case aS => exact (below_size (by repeat (first | exact HB.out | apply below_alloc | apply pw_below_drewN | apply below_drew1))))
                   (case aL => have := LMc21.out; omega)
                   intro v178 w32 ho hb hg hat
                   have HS0_ := cell_grown hg (hHeld.1) (by have h_ := HO_11.out.1 _ rfl; first | (rw [add_block]; first | exact h_ | exact h_.1 | exact h_.2 | exact h_.1.1 | exact h_.1.2 | exact h_.2.1 | exact h_.2.2 | exact h_.1.1.1 | exact h_.1.1.2 | exact h_.1.2.1 | exact h_.1.2.2 | exact h_.2.1.1 | exact h_.2.1.2 | exact h_.2.2.1 | exact h_.2.2.2 | exact h_.1.1.1.1 | exact h_.1.1.1.2 | exact h_.1.1.2.1 | exact h_.1.1.2.2 | exact h_.1.2.1.1 | exact h_.1.2.1.2 | exact h_.1.2.2.1 | exact h_.1.2.2.2 | exact h_.2.1.1.1 | exact h_.2.1.1.2 | exact h_.2.1.2.1 | exact h_.2.1.2.2 | exact h_.2.2.1.1 | exact h_.2.2.1.2 | exact h_.2.2.2.1 | exact h_.2.2.2.2) | (show some (Addr.add _ _).block ≠ _; rw [add_block]; first | exact h_ | exact h_.1 | exact h_.2 | exact h_.1.1 | exact h_.1.2 | exact h_.2.1 | exact h_.2.2 | exact h_.1.1.1 | exact h_.1.1.2 | exact h_.1.2.1 | exact h_.1.2.2 | exact h_.2.1.1 | exact h_.2.1.2 | exact h_.2.2.1 | exact h_.2.2.2 | exact h_.1.1.1.1 | exact h_.1.1.1.2 | exact h_.1.1.2.1 | exact h_.1.1.2.2 | exact h_.1.2.1.1 | exact h_.1.2.1.2 | exact h_.1.2.2.1 | exact h_.1.2.2.2 | exact h_.2.1.1.1 | exact h_.2.1.1.2 | exact h_.2.1.2.1 | exact h_.2.1.2.2 | exact h_.2.2.1.1 | exact h_.2.2.1.2 | exact h_.2.2.2.1 | exact h_.2.2.2.2) | (first | exact h_ | exact h_.1 | exact h_.2 | exact h_.1.1 | exact h_.1.2 | exact h_.2.1 | exact h_.2.2 | exact h_.1.1.1 | exact h_.1.1.2 | exact h_.1.2.1 | exact h_.1.2.2 | exact h_.2.1.1 | exact h_.2.1.2 | exact h_.2.2.1 | exact h_.2.2.2 | exact h_.1.1.1.1 | exact h_.1.1.1.2 | exact h_.1.1.2.1 | exact h_.1.1.2.2 | exact h_.1.2.1.1 | exact h_.1.2.1.2 | exact h_.1.2.2.1 | exact h_.1.2.2.2 | exact h_.2.1.1.1 | exact h_.2.1.1.2 | exact h_.2.1.2.1 | exact h_.2.1.2.2 | exact h_.2.2.1.1 | exact h_.2.2.1.2 | exact h_.2.2.2.1 | exact h_.2.2.2.2))
                   rw [← Ny177.out] at ho
                   have n0_ := Aside0.mk (Kd.N_afterv (ok := (fun k_ => some k_ ≠ (.slice (some ad172) x13_2.length co24 : Value).ownBlock ∧ some k_ ≠ (v182 : Value).ownBlock ∧ some k_ ≠ (.slice Ao33 y174.length co33 : Value).ownBlock)) (by exact Kd.N_mono HO_11.out (fun _ hk => ⟨⟨hk.1.1.2, ⟨hk.1.2, hk.2⟩⟩, hk.1.1.1⟩)) hg hat)
                   have n1_ := Aside0.mk (Kd.R_over' (by exact HO_13.out) (Kd.N_typed (by exact HO_12.out)) (by decide) hg)
                   have n2_ := Aside0.mk (Kd.V_afterv (ok := (fun k_ => some k_ ≠ (.slice (some ad173) t167.length co27 : Value).ownBlock ∧ some k_ ≠ (.slice (some ad172) x13_2.length co24 : Value).ownBlock ∧ some k_ ≠ (v182 : Value).ownBlock ∧ some k_ ≠ (.slice Ao33 y174.length co33 : Value).ownBlock)) (by exact Kd.V_mono HL173_0.out (fun _ hk => ⟨⟨hk.1.1.2, ⟨hk.1.1.1.2, ⟨hk.1.2, hk.2⟩⟩⟩, hk.1.1.1.1⟩)) hg hat)
                   have n3_ := Aside0.mk (Kd.R_over' (by exact HO183.out) (Kd.N_typed (by exact HO_12.out)) (by decide) hg)
                   have n4_ := Aside0.mk (Kd.N_afterv (ok := (fun k_ => some k_ ≠ (.slice (some ad173) t167.length co27 : Value).ownBlock ∧ some k_ ≠ (.slice (some ad172) x13_2.length co24 : Value).ownBlock ∧ some k_ ≠ (v182 : Value).ownBlock)) (by exact Kd.N_mono HO176.out (fun _ hk => ⟨⟨hk.1, ⟨hk.2.2.1, hk.2.2.2⟩⟩, hk.2.1⟩)) hg hat)
                   have n5_ := Aside0.mk (hb)
                   have n6_ := Aside0.mk (ho)
                   clear HO_11
                   clear HO_13
                   clear HL173_0
                   clear HO183
                   clear HO176
                   clear HB
                   clear HO_12
                   have HO_11 := n0_
                   have HO_13 := n1_
                   have HL173_0 := n2_
                   have HO183 := n3_
                   have HO176 := n4_
                   have HB := n5_
                   have HO179 := n6_
                   clear n0_ n1_ n2_ n3_ n4_ n5_ n6_
                   clear ho hb hg hat
                   refine hK.out _ _ ⟨HS0_, ((HB.out.cell (World.block_lt_of_cell? w _ hw180_0)).trans hw180_0)⟩ (fun hHeld => ?_)
                   clear hK K
                   refine norm_ (a' := ?_) ?_ ?_
                   rotate_left
                   ·show Act.put _ (some 73) _ = _
                    simp only [Act.put, List.setIfInBounds_toArray, List.set_cons_zero, List.set_cons_succ, i64_w, i32_w]
                    rfl
                   exact norm_ (by simp only [putAll, Act.put, List.setIfInBounds_toArray, List.set_cons_zero, List.set_cons_succ]) (hCont (.slice Ao33 y174.length co33, v178, v182) _ ⟨hHeld, (by exact Kd.V_mono HL173_0.out (fun _ hk => ⟨hk.1.2.2.2, ⟨hk.2, ⟨hk.1.2.2.1, ⟨hk.1.1, hk.1.2.1⟩⟩⟩⟩)), (by exact Kd.N_mono HO176.out (fun _ hk => ⟨hk.2, ⟨hk.1.2.2, ⟨hk.1.1, hk.1.2.1⟩⟩⟩)), (by exact Kd.N_mono HO179.out (fun _ hk => ⟨hk.2.2, ⟨hk.1, hk.2.1⟩⟩)), (by exact Kd.R_mono HO183.out (fun _ hk => hk.2)), (by exact Kd.N_mono HO_11.out (fun _ hk => ⟨hk.1.2.2, ⟨hk.2, ⟨hk.1.2.1, hk.1.1⟩⟩⟩)), (by exact Kd.R_mono HO_13.out (fun _ hk => hk.2)), (by repeat (first | exact HB.out | apply below_alloc | apply pw_below_drewN | apply below_drew1))⟩)
                 rintro ⟨v175, v178, v182⟩ w34 ⟨hS_, h0_, h1_, h2_, h3_, h4_, h5_, h6_⟩
                 have n0_ : Aside0 (Kd.V (Kd.int .i64) 3 w34 w.heap.size (fun k_ => some k_ ≠ (v175 : Value).ownBlock ∧ some k_ ≠ (v178 : Value).ownBlock ∧ some k_ ≠ (v182 : Value).ownBlock ∧ some k_ ≠ (.slice (some ad173) t167.length co27 : Value).ownBlock ∧ some k_ ≠ (.slice (some ad172) x13_2.length co24 : Value).ownBlock) (.slice A173_0 (rd_L1 t167 x45_2).length c173_0) (rd_L1 t167 x45_2)) := ⟨h0_⟩
                 have n1_ : Aside0 (Kd.N (Kd.slice 3 (Kd.int .i64)) 32 w34 w.heap.size (fun k_ => some k_ ≠ (v178 : Value).ownBlock ∧ some k_ ≠ (v182 : Value).ownBlock ∧ some k_ ≠ (.slice (some ad173) t167.length co27 : Value).ownBlock ∧ some k_ ≠ (.slice (some ad172) x13_2.length co24 : Value).ownBlock) v175 y174) := ⟨h1_⟩
                 have n2_ : Aside0 (Kd.N (Kd.slice 3 (Kd.int .i64)) 32 w34 w.heap.size (fun k_ => some k_ ≠ (v182 : Value).ownBlock ∧ some k_ ≠ (.slice (some ad173) t167.length co27 : Value).ownBlock ∧ some k_ ≠ (.slice (some ad172) x13_2.length co24 : Value).ownBlock) v178 y177) := ⟨h2_⟩
                 have n3_ : Aside0 (Kd.R Kd.string 9 w34 w.heap.size (fun k_ => some k_ ≠ (.slice (some ad172) x13_2.length co24 : Value).ownBlock) v182 y181) := ⟨h3_⟩
                 have n4_ : Aside0 (Kd.N (Kd.slice 3 (Kd.int .i64)) 32 w34 w.heap.size (fun k_ => some k_ ≠ (v175 : Value).ownBlock ∧ some k_ ≠ (v178 : Value).ownBlock ∧ some k_ ≠ (v182 : Value).ownBlock ∧ some k_ ≠ (.slice (some ad172) x13_2.length co24 : Value).ownBlock) (.slice (some ad173) t167.length co27) t167) := ⟨h4_⟩
                 have n5_ : Aside0 (Kd.R Kd.string 9 w34 w.heap.size (fun k_ => some k_ ≠ (v182 : Value).ownBlock) (.slice (some ad172) x13_2.length co24) x13_2) := ⟨h5_⟩
                 have n6_ : Aside0 (Below w.heap.size w w34) := ⟨h6_⟩
                 clear HO_11
                 clear HO_12
                 clear HO_13
                 clear HB
                 clear h0_ h1_ h2_ h3_ h4_ h5_ h6_
                 have HL173_0 := n0_
                 have HO176 := n1_
                 have HO179 := n2_
                 have HO183 := n3_
                 have HO_11 := n4_
                 have HO_13 := n5_
                 have HB := n6_
                 clear n0_ n1_ n2_ n3_ n4_ n5_ n6_
                 have hHeld : w34.cell? (ad173.add (x45_2).toNat) = some (.slice A173_0 (rd_L1 t167 x45_2).length c173_0) ∧ w34.cell? (ad171.add (x45_2).toNat) = some (.string (rdOf ByteArray.empty l1 x45_2)) := hS_
                 obtain ⟨Ao36, co36, eo36⟩ := Kd.R_slice HO183.out
                 (first | subst eo36 | (injection eo36 with f1_ f2_ f3_; have f4_ := f1_.symm; have f5_ := f3_.symm; clear f1_ f2_ f3_; subst f4_; subst f5_))
                 refine norm_ (a' := ?_) ?_ ?_
                 rotate_left
                 ·simp only [putAll, Act.put, List.setIfInBounds_toArray, List.set_cons_zero, List.set_cons_succ]
                  rfl
                 refine one_ (i := 13) (N := some 80) #[true, true, true, true, true, true, true, true, true, true, true, true, true, true, false, false] rfl rfl (one_of HT_.out (by kernel_rfl)) (by decide) (fun K hK => ?_)
                 refine Kd.R_append_rows_step Kd.string (w0 := w) w.heap.size (by rfl) (.tmp 74) (.tmp 79) 24 9 (.string ⟨#[]⟩) 16 rfl Try.underlying24 info9 rfl (by decide) (by omega) (.slice (some ad172) x13_2.length co24) x13_2 y181 _ _ _ (fun k_ => some k_ ≠ (.slice Ao36 y181.length co36 : Value).ownBlock) (fun _ => False) rfl rfl ?aO ?aR (fun _ _ h => h) (fun _ h => h.elim) ?aF ?aB ?aS ?aL ?_
                 (case aR => repeat (first | exact (Kd.R_reads' HO183.out).2.2 | (with_reducible refine Kd.C_alloc ?_ _) | (with_reducible refine Kd.C_drewN ?_ _) | (with_reducible refine Kd.C_drew ?_)))
                 (case aB => exact (by repeat (first | exact HB.out | apply below_alloc | apply pw_below_drewN | apply below_drew1)))
                 (case aF => exact (fun k_ hk => Kd.fresh' (Kd.R_lt (by exact HO183.out)) k_ hk))
                 (case aO => exact (by exact HO_13.out))
                 (case aS => exact (below_size (by repeat (first | exact HB.out | apply below_alloc | apply pw_below_drewN | apply below_drew1))))
                 (case aL => have := LMc22.out; omega)
                 intro v185 w35 ho hb hg hat
                 have HS0_ := cell_grown hg (hHeld.1) (by have h_ := HO_11.out.1 _ rfl; first | (rw [add_block]; first | exact h_ | exact h_.1 | exact h_.2 | exact h_.1.1 | exact h_.1.2 | exact h_.2.1 | exact h_.2.2 | exact h_.1.1.1 | exact h_.1.1.2 | exact h_.1.2.1 | exact h_.1.2.2 | exact h_.2.1.1 | exact h_.2.1.2 | exact h_.2.2.1 | exact h_.2.2.2 | exact h_.1.1.1.1 | exact h_.1.1.1.2 | exact h_.1.1.2.1 | exact h_.1.1.2.2 | exact h_.1.2.1.1 | exact h_.1.2.1.2 | exact h_.1.2.2.1 | exact h_.1.2.2.2 | exact h_.2.1.1.1 | exact h_.2.1.1.2 | exact h_.2.1.2.1 | exact h_.2.1.2.2 | exact h_.2.2.1.1 | exact h_.2.2.1.2 | exact h_.2.2.2.1 | exact h_.2.2.2.2) | (show some (Addr.add _ _).block ≠ _; rw [add_block]; first | exact h_ | exact h_.1 | exact h_.2 | exact h_.1.1 | exact h_.1.2 | exact h_.2.1 | exact h_.2.2 | exact h_.1.1.1 | exact h_.1.1.2 | exact h_.1.2.1 | exact h_.1.2.2 | exact h_.2.1.1 | exact h_.2.1.2 | exact h_.2.2.1 | exact h_.2.2.2 | exact h_.1.1.1.1 | exact h_.1.1.1.2 | exact h_.1.1.2.1 | exact h_.1.1.2.2 | exact h_.1.2.1.1 | exact h_.1.2.1.2 | exact h_.1.2.2.1 | exact h_.1.2.2.2 | exact h_.2.1.1.1 | exact h_.2.1.1.2 | exact h_.2.1.2.1 | exact h_.2.1.2.2 | exact h_.2.2.1.1 | exact h_.2.2.1.2 | exact h_.2.2.2.1 | exact h_.2.2.2.2) | (first | exact h_ | exact h_.1 | exact h_.2 | exact h_.1.1 | exact h_.1.2 | exact h_.2.1 | exact h_.2.2 | exact h_.1.1.1 | exact h_.1.1.2 | exact h_.1.2.1 | exact h_.1.2.2 | exact h_.2.1.1 | exact h_.2.1.2 | exact h_.2.2.1 | exact h_.2.2.2 | exact h_.1.1.1.1 | exact h_.1.1.1.2 | exact h_.1.1.2.1 | exact h_.1.1.2.2 | exact h_.1.2.1.1 | exact h_.1.2.1.2 | exact h_.1.2.2.1 | exact h_.1.2.2.2 | exact h_.2.1.1.1 | exact h_.2.1.1.2 | exact h_.2.1.2.1 | exact h_.2.1.2.2 | exact h_.2.2.1.1 | exact h_.2.2.1.2 | exact h_.2.2.2.1 | exact h_.2.2.2.2))
                 rw [← Ny184.out] at ho
                 have n0_ := Aside0.mk (Kd.N_afterv (ok := (fun k_ => some k_ ≠ (v175 : Value).ownBlock ∧ some k_ ≠ (v178 : Value).ownBlock ∧ some k_ ≠ (.slice Ao36 y181.length co36 : Value).ownBlock)) (by exact Kd.N_mono HO_11.out (fun _ hk => ⟨⟨hk.1, ⟨hk.2.1, hk.2.2.1⟩⟩, hk.2.2.2⟩)) hg hat)
                 have n1_ := Aside0.mk (Kd.V_afterv (ok := (fun k_ => some k_ ≠ (.slice (some ad173) t167.length co27 : Value).ownBlock ∧ some k_ ≠ (v175 : Value).ownBlock ∧ some k_ ≠ (v178 : Value).ownBlock ∧ some k_ ≠ (.slice Ao36 y181.length co36 : Value).ownBlock)) (by exact Kd.V_mono HL173_0.out (fun _ hk => ⟨⟨hk.2.2.2.1, ⟨hk.1, ⟨hk.2.1, hk.2.2.1⟩⟩⟩, hk.2.2.2.2⟩)) hg hat)
                 have n2_ := Aside0.mk (Kd.N_afterv (ok := (fun k_ => some k_ ≠ (.slice (some ad173) t167.length co27 : Value).ownBlock ∧ some k_ ≠ (v178 : Value).ownBlock ∧ some k_ ≠ (.slice Ao36 y181.length co36 : Value).ownBlock)) (by exact Kd.N_mono HO176.out (fun _ hk => ⟨⟨hk.2.2.1, ⟨hk.1, hk.2.1⟩⟩, hk.2.2.2⟩)) hg hat)
                 have n3_ := Aside0.mk (Kd.N_afterv (ok := (fun k_ => some k_ ≠ (.slice (some ad173) t167.length co27 : Value).ownBlock ∧ some k_ ≠ (.slice Ao36 y181.length co36 : Value).ownBlock)) (by exact Kd.N_mono HO179.out (fun _ hk => ⟨⟨hk.2.1, hk.1⟩, hk.2.2⟩)) hg hat)
                 have n4_ := Aside0.mk (Kd.R_after (ok := (fun _ => True)) (by exact Kd.R_mono HO183.out (fun _ hk => ⟨trivial, hk⟩)) hg hat)
                 have n5_ := Aside0.mk (hb)
                 have n6_ := Aside0.mk (ho)
                 clear HO_11
                 clear HL173_0
                 clear HO176
                 clear HO179
                 clear HO183
                 clear HB
                 clear HO_13
                 have HO_11 := n0_
                 have HL173_0 := n1_
                 have HO176 := n2_
                 have HO179 := n3_
                 have HO183 := n4_
                 have HB := n5_
                 have HO186 := n6_
                 clear n0_ n1_ n2_ n3_ n4_ n5_ n6_
                 clear ho hb hg hat
                 refine hK.out _ _ ⟨HS0_, ((HB.out.cell (World.block_lt_of_cell? w _ hw180_0)).trans hw180_0)⟩ (fun hHeld => ?_)
                 clear hK K
                 refine norm_ (a' := ?_) ?_ ?_
                 rotate_left
                 ·show Act.put _ (some 80) _ = _
                  simp only [Act.put, List.setIfInBounds_toArray, List.set_cons_zero, List.set_cons_succ, i64_w, i32_w]
                  rfl
                 refine pure_ (i := 14) (N := some 12) (v := ?_) (a' := ?_) #[true, true, true, true, true, true, true, true, true, true, true, true, true, true, true, false] rfl rfl (any_of HT_.out (by kernel_rfl)) (fun _ _ _ h => h) (Or.inl ⟨by rfl, ?_⟩) ?_ ?_
                 rotate_left
                 ·intro w'
                  go_simp
                  with_reducible rfl
                 rotate_left
                 ·simp only [Act.put, List.setIfInBounds_toArray, List.set_cons_zero, List.set_cons_succ, i64_w, i32_w]
                  rfl
                 refine pure_ (i := 15) (N := some 13) (v := ?_) (a' := ?_) #[true, true, true, true, true, true, true, true, true, true, true, true, true, true, true, true] rfl rfl (any_of HT_.out (by kernel_rfl)) (fun _ _ _ h => h) (Or.inl ⟨by rfl, ?_⟩) ?_ ?_
                 rotate_left
                 ·intro w'
                  go_simp
                  with_reducible rfl
                 rotate_left
                 ·simp only [Act.put, List.setIfInBounds_toArray, List.set_cons_zero, List.set_cons_succ, i64_w, i32_w]
                  rfl
                 refine done_ (done_of HT_.out (by kernel_rfl)) ?_
                 try go_wp2
                 go_roundg k2
                 case measure => have := HJ4.out; have := HK2.out; omega
                 case rel => exact ⟨(y177), (y184), (wrap64 (x45_2 + 1)), (by first | rfl | (simp; done) | (simp [*]; done)), H', ⟨by have := HJ4.out; have := HK2.out; omega⟩, ⟨by exact Kd.N_mono HO_11.out (fun _ hk => ⟨hk.1.2.1, hk.2⟩)⟩, ⟨by exact Kd.N_mono HO179.out (fun _ hk => ⟨hk.1.1, hk.2⟩)⟩, ⟨by exact Kd.R_mono HO186.out (fun _ hk => trivial)⟩, ⟨by repeat (first | exact HB.out | apply below_alloc | apply pw_below_drewN | apply below_drew1)⟩⟩
                ·rw [if_neg c22] at H
                 exact absurd H (by simp)
               ·rw [if_neg c21] at H
                exact absurd H (by simp)
              ·rw [if_neg c20] at H
               exact absurd H (by simp)
             ·rw [if_neg c19] at H
              have c19b0 : (((rdOf ByteArray.empty l1 x45_2).size : Int) == ((rdOf ByteArray.empty x13_2 0).size : Int)) = false := beq_eq_false_iff_ne.mpr c19
              have c19b1 : (((rdOf ByteArray.empty l1 x45_2).size : Int) != ((rdOf ByteArray.empty x13_2 0).size : Int)) = true := bne_iff_ne.mpr c19
              have c19b2 : ((rdOf ByteArray.empty l1 x45_2).size == (rdOf ByteArray.empty x13_2 0).size) = false := by first | simpa using c19 | (simp at c19 ⊢; omega)
              simp only [Option.some.injEq, Prod.mk.injEq] at H
              obtain ⟨rfl, rfl⟩ := H
              have p170 : 0 ≤ (x45_2 : Int) := of_decide_eq_true (by assumption)
              have q170 : x45_2 < (l2.length : Int) := of_decide_eq_true (by assumption)
              obtain ⟨ad170, e170, hx170_0⟩ := Kd.at_bool HR2.out x45_2 p170 q170
              (try rw [← Nbq14.out] at hx170_0)
              cases e170
              replace hx170_0 := (HB.out.cell (World.block_lt_of_cell? w _ hx170_0)).trans hx170_0
              replace p170 := eq_true p170
              replace q170 := eq_true q170
              try go_wp2
              have n0_ := Aside0.mk (Kd.N_drew HO_11.out)
              have n1_ := Aside0.mk (Kd.N_drew HO_12.out)
              have n2_ := Aside0.mk (Kd.R_drew HO_13.out)
              have n3_ := Aside0.mk (below_drew1 HB.out)
              clear HO_11
              clear HO_12
              clear HO_13
              clear HB
              have HO_11 := n0_
              have HO_12 := n1_
              have HO_13 := n2_
              have HB := n3_
              clear n0_ n1_ n2_ n3_
              obtain ⟨Ao38, co38, eo38⟩ := Kd.R_slice HO_13.out
              (first | subst eo38 | (injection eo38 with f1_ f2_ f3_; have f4_ := f1_.symm; have f5_ := f3_.symm; clear f1_ f2_ f3_; subst f4_; subst f5_))
              have p171 : 0 ≤ (x45_2 : Int) := of_decide_eq_true (by assumption)
              have q171 : x45_2 < (l1.length : Int) := of_decide_eq_true (by assumption)
              obtain ⟨ad171, e171, hx171_0⟩ := Kd.at_string HR1.out x45_2 p171 q171
              have hw171_0 := hx171_0
              cases e171
              replace hx171_0 := (HB.out.cell (World.block_lt_of_cell? w _ hx171_0)).trans hx171_0
              replace p171 := eq_true p171
              replace q171 := eq_true q171
              have p172 : 0 ≤ (0 : Int) := (by omega)
              have q172 : 0 < (x13_2.length : Int) := of_decide_eq_true (by assumption)
              obtain ⟨ad172, e172, hx172_0⟩ := Kd.at_string (Kd.R_reads' HO_13.out).2.2 0 p172 q172
              cases e172
              have qi172 : (0 < x13_2.length) = True := eq_true (by omega)
              (try rw [show ((0 : Int)).toNat = 0 from rfl] at hx172_0)
              (try rw [Addr.add_zero'] at hx172_0)
              replace p172 := eq_true p172
              replace q172 := eq_true q172
              refine start_ (n := 15) (S := fun w' => w'.cell? (ad171.add (x45_2).toNat) = some (.string (rdOf ByteArray.empty l1 x45_2)) ∧ w'.cell? ad172 = some (.string (rdOf ByteArray.empty x13_2 0))) (ds := []) #[false, false, false, false, false, false, false, false, false, false, false, false, false, false, false] (by kernel_rfl) rfl rfl ⟨((HB.out.cell (World.block_lt_of_cell? w _ hw171_0)).trans hw171_0), hx172_0⟩ (fun hHeld => ?_); refine with_tabW impl_Decode.tab11 impl_Decode.bits11 (fun HT_ HW_ => ?_)
              generalize wr.drew = w37 at HO_11 HO_12 HO_13 HB hx171_0 hx172_0 hHeld ⊢
              refine pure_ (i := 0) (N := some 52) (v := ?_) (a' := ?_) #[true, false, false, false, false, false, false, false, false, false, false, false, false, false, false] rfl rfl (any_of HT_.out (by kernel_rfl)) (fun _ _ _ h => h) (Or.inl ⟨by rfl, ?_⟩) ?_ ?_
              rotate_left
              ·intro w'
               go_simp
               with_reducible rfl
              rotate_left
              ·simp only [Act.put, List.setIfInBounds_toArray, List.set_cons_zero, List.set_cons_succ, i64_w, i32_w]
               rfl
              refine pure_ (i := 1) (N := some 53) (v := ?_) (a' := ?_) #[true, true, false, false, false, false, false, false, false, false, false, false, false, false, false] rfl rfl (any_of HT_.out (by kernel_rfl)) (fun _ _ _ h => h) (Or.inl ⟨by rfl, ?_⟩) ?_ ?_
              rotate_left
              ·intro w'
               go_simp
               with_reducible rfl
              rotate_left
              ·simp only [Act.put, List.setIfInBounds_toArray, List.set_cons_zero, List.set_cons_succ, i64_w, i32_w]
               rfl
              refine pure_ (i := 2) (N := some 54) (v := ?_) (a' := ?_) #[true, true, true, false, false, false, false, false, false, false, false, false, false, false, false] rfl rfl (any_of HT_.out (by kernel_rfl)) (fun _ _ _ h => h) (Or.inl ⟨by rfl, ?_⟩) ?_ ?_
              rotate_left
              ·intro w'
               go_simp
               with_reducible rfl
              rotate_left
              ·simp only [Act.put, List.setIfInBounds_toArray, List.set_cons_zero, List.set_cons_succ, i64_w, i32_w]
               rfl
              refine pure_ (i := 3) (N := some 55) (v := ?_) (a' := ?_) #[true, true, true, true, false, false, false, false, false, false, false, false, false, false, false] rfl rfl (any_of HT_.out (by kernel_rfl)) (fun _ _ _ h => h) (Or.inl ⟨by rfl, ?_⟩) ?_ ?_
              rotate_left
              ·intro w'
               go_simp
               with_reducible rfl
              rotate_left
              ·simp only [Act.put, List.setIfInBounds_toArray, List.set_cons_zero, List.set_cons_succ, i64_w, i32_w]
               rfl
              refine pure_ (i := 4) (N := some 56) (v := ?_) (a' := ?_) #[true, true, true, true, true, false, false, false, false, false, false, false, false, false, false] rfl rfl (any_of HT_.out (by kernel_rfl)) (fun _ _ _ h => h) (Or.inl ⟨by rfl, ?_⟩) ?_ ?_
              rotate_left
              ·intro w'
               go_simp
               with_reducible rfl
              rotate_left
              ·simp only [Act.put, List.setIfInBounds_toArray, List.set_cons_zero, List.set_cons_succ, i64_w, i32_w]
               rfl
              refine pure_ (i := 5) (N := some 57) (v := ?_) (a' := ?_) #[true, true, true, true, true, true, false, false, false, false, false, false, false, false, false] rfl rfl (any_of HT_.out (by kernel_rfl)) (fun _ _ _ h => h) (Or.inl ⟨by rfl, ?_⟩) ?_ ?_
              rotate_left
              ·intro w'
               go_simp
               with_reducible rfl
              rotate_left
              ·simp only [Act.put, List.setIfInBounds_toArray, List.set_cons_zero, List.set_cons_succ, i64_w, i32_w]
               rfl
              refine pure_ (i := 6) (N := some 58) (v := ?_) (a' := ?_) #[true, true, true, true, true, true, true, false, false, false, false, false, false, false, false] rfl rfl (any_of HT_.out (by kernel_rfl)) (fun _ _ _ h => h) (Or.inl ⟨by rfl, ?_⟩) ?_ ?_
              rotate_left
              ·intro w'
               go_simp
               with_reducible rfl
              rotate_left
              ·simp only [Act.put, List.setIfInBounds_toArray, List.set_cons_zero, List.set_cons_succ, i64_w, i32_w]
               rfl
              refine pure_ (i := 9) (N := some 61) (v := ?_) (a' := ?_) #[true, true, true, true, true, true, true, false, false, true, false, false, false, false, false] rfl rfl (any_of HT_.out (by kernel_rfl)) (fun _ _ _ h => h) (Or.inl ⟨by rfl, ?_⟩) ?_ ?_
              rotate_left
              ·intro w'
               go_simp
               with_reducible rfl
              rotate_left
              ·simp only [Act.put, List.setIfInBounds_toArray, List.set_cons_zero, List.set_cons_succ, i64_w, i32_w]
               rfl
              refine pure_ (i := 10) (N := some 62) (v := ?_) (a' := ?_) #[true, true, true, true, true, true, true, false, false, true, true, false, false, false, false] rfl rfl (any_of HT_.out (by kernel_rfl)) (fun _ _ _ h => h) (Or.inl ⟨by rfl, ?_⟩) ?_ ?_
              rotate_left
              ·intro w'
               go_simp
               with_reducible rfl
              rotate_left
              ·simp only [Act.put, List.setIfInBounds_toArray, List.set_cons_zero, List.set_cons_succ, i64_w, i32_w]
               rfl
              refine take_ (i := 7) (N := some 59) (v := ?_) (a' := ?_) #[true, true, true, true, true, true, true, true, false, true, true, false, false, false, false] rfl rfl (take_ofW HT_.out HW_.out (by kernel_rfl)) (fun _ _ _ h => h) (Or.inl ⟨by rfl, ?_⟩) hHeld ?_ ?_
              rotate_left
              ·rintro w' ⟨s0, s1⟩
               go_simp
               with_reducible rfl
              rotate_left
              ·simp only [Act.put, List.setIfInBounds_toArray, List.set_cons_zero, List.set_cons_succ, i64_w, i32_w]
               rfl
              refine pure_ (i := 8) (N := some 60) (v := ?_) (a' := ?_) #[true, true, true, true, true, true, true, true, true, true, true, false, false, false, false] rfl rfl (any_of HT_.out (by kernel_rfl)) (fun _ _ _ h => h) (Or.inl ⟨by rfl, ?_⟩) ?_ ?_
              rotate_left
              ·intro w'
               go_simp
               with_reducible rfl
              rotate_left
              ·simp only [Act.put, List.setIfInBounds_toArray, List.set_cons_zero, List.set_cons_succ, i64_w, i32_w]
               rfl
              refine take_ (i := 11) (N := some 63) (v := ?_) (a' := ?_) #[true, true, true, true, true, true, true, true, true, true, true, true, false, false, false] rfl rfl (take_ofW HT_.out HW_.out (by kernel_rfl)) (fun _ _ _ h => h) (Or.inl ⟨by rfl, ?_⟩) hHeld ?_ ?_
              rotate_left
              ·rintro w' ⟨s0, s1⟩
               go_simp
               with_reducible rfl
              rotate_left
              ·simp only [Act.put, List.setIfInBounds_toArray, List.set_cons_zero, List.set_cons_succ, i64_w, i32_w]
               rfl
              refine pure_ (i := 12) (N := some 64) (v := ?_) (a' := ?_) #[true, true, true, true, true, true, true, true, true, true, true, true, true, false, false] rfl rfl (any_of HT_.out (by kernel_rfl)) (fun _ _ _ h => h) (Or.inl ⟨by rfl, ?_⟩) ?_ ?_
              rotate_left
              ·intro w'
               go_simp
               with_reducible rfl
              rotate_left
              ·simp only [Act.put, List.setIfInBounds_toArray, List.set_cons_zero, List.set_cons_succ, i64_w, i32_w]
               rfl
              refine pure_ (i := 13) (N := some 65) (v := ?_) (a' := ?_) #[true, true, true, true, true, true, true, true, true, true, true, true, true, true, false] rfl rfl (any_of HT_.out (by kernel_rfl)) (fun _ _ _ h => h) (Or.inl ⟨by rfl, ?_⟩) ?_ ?_
              rotate_left
              ·intro w'
               go_simp
               with_reducible rfl
              rotate_left
              ·simp only [Act.put, List.setIfInBounds_toArray, List.set_cons_zero, List.set_cons_succ, i64_w, i32_w]
               rfl
              refine pure_ (i := 14) (N := some 66) (v := ?_) (a' := ?_) #[true, true, true, true, true, true, true, true, true, true, true, true, true, true, true] rfl rfl (any_of HT_.out (by kernel_rfl)) (fun _ _ _ h => h) (Or.inl ⟨by rfl, ?_⟩) ?_ ?_
              rotate_left
              ·intro w'
               go_simp
               with_reducible rfl
              rotate_left
              ·simp only [Act.put, List.setIfInBounds_toArray, List.set_cons_zero, List.set_cons_succ, i64_w, i32_w]
               rfl
              refine done_ (done_of HT_.out (by kernel_rfl)) ?_
              try go_wp2
              go_ret2
              exact ⟨_, by first | rfl | (simp [errW_none, errW_some] <;> rfl) | (simp [*, errW_none, errW_some] <;> rfl), by first | exact Kd.R_nil _ _ _ _ _ | exact Kd.N_nil _ _ _ _ _ | exact Kd.V_nil _ _ _ _ _ | exact Kd.Q_nil _ _ _ _ _ | exact Kd.S_nil _ _ _ _ _, by repeat (first | exact HB.out | apply below_alloc | apply pw_below_drewN | apply below_drew1)⟩
            ·rw [if_neg c18] at H
             exact absurd H (by simp)
           ·rw [if_neg c17] at H
            exact absurd H (by simp)
          ·rw [if_neg c16] at H
           have c16b0 : decide (0 < (x13_2.length : Int)) = false := decide_eq_false c16
           have c16b1 : decide (0 < x13_2.length) = false := decide_eq_false (by omega)
           clear c16
           by_cases c39 : x45_2 < (t167.length : Int)
           ·rw [if_pos c39] at H
            have c39b0 : decide (x45_2 < (t167.length : Int)) = true := decide_eq_true c39
            clear c39
            obtain ⟨y188, hy188⟩ : ∃ y_ : List (List Int), y_ = (([rd_L1 t167 x45_2] : List (List Int))) := ⟨_, rfl⟩
            replace H : (if x12_2.length + y188.length < 5864062014805 then (if x45_2 < (l1.length : Int) then ((some (([rdOf ByteArray.empty l1 x45_2] : List ByteArray) : List ByteArray)).bind fun y195 => (if x13_2.length + y195.length < 8796093022208 then (impl_Decode.l0 k2 l1 t164 t167 (x12_2 ++ y188) (x13_2 ++ y195) l2 (l2.length : Int) (wrap64 (x45_2 + 1))) else (none))) else (none)) else (none)) = some (r1, r2) := by first | (rw [hy188]; with_reducible exact H) | (have H2_ := (Option.bind_some _ _).symm.trans H; rw [hy188]; with_reducible exact H2_) | (have H2_ := (Option.bind_some _ _).symm.trans H; with_reducible exact H2_) | with_reducible exact H | (rw [hy188]; exact H) | exact H
            have Ny188 := Aside0.mk hy188
            clear hy188
            by_cases c40 : x12_2.length + y188.length < 5864062014805
            ·rw [if_pos c40] at H
             have LMc40 := Aside0.mk c40
             clear c40
             obtain ⟨y191, hy191⟩ : ∃ y_ : List (List Int), y_ = (x12_2 ++ y188) := ⟨_, rfl⟩
             replace H : (if x45_2 < (l1.length : Int) then ((some (([rdOf ByteArray.empty l1 x45_2] : List ByteArray) : List ByteArray)).bind fun y195 => (if x13_2.length + y195.length < 8796093022208 then (impl_Decode.l0 k2 l1 t164 t167 y191 (x13_2 ++ y195) l2 (l2.length : Int) (wrap64 (x45_2 + 1))) else (none))) else (none)) = some (r1, r2) := by first | (rw [hy191]; with_reducible exact H) | (have H2_ := (Option.bind_some _ _).symm.trans H; rw [hy191]; with_reducible exact H2_) | (have H2_ := (Option.bind_some _ _).symm.trans H; with_reducible exact H2_) | with_reducible exact H | (rw [hy191]; exact H) | exact H
             have Ny191 := Aside0.mk hy191
             clear hy191
             by_cases c41 : x45_2 < (l1.length : Int)
             ·rw [if_pos c41] at H
              have c41b0 : decide (x45_2 < (l1.length : Int)) = true := decide_eq_true c41
              clear c41
              obtain ⟨y195, hy195⟩ : ∃ y_ : List ByteArray, y_ = (([rdOf ByteArray.empty l1 x45_2] : List ByteArray)) := ⟨_, rfl⟩
              replace H : (if x13_2.length + y195.length < 8796093022208 then (impl_Decode.l0 k2 l1 t164 t167 y191 (x13_2 ++ y195) l2 (l2.length : Int) (wrap64 (x45_2 + 1))) else (none)) = some (r1, r2) := by first | (rw [hy195]; with_reducible exact H) | (have H2_ := (Option.bind_some _ _).symm.trans H; rw [hy195]; with_reducible exact H2_) | (have H2_ := (Option.bind_some _ _).symm.trans H; with_reducible exact H2_) | with_reducible exact H | (rw [hy195]; exact H) | exact H
              have Ny195 := Aside0.mk hy195
              clear hy195
              by_cases c42 : x13_2.length + y195.length < 8796093022208
              ·rw [if_pos c42] at H
               have LMc42 := Aside0.mk c42
               clear c42
               obtain ⟨y198, hy198⟩ : ∃ y_ : List ByteArray, y_ = (x13_2 ++ y195) := ⟨_, rfl⟩
               replace H : (impl_Decode.l0 k2 l1 t164 t167 y191 y198 l2 (l2.length : Int) (wrap64 (x45_2 + 1))) = some (r1, r2) := by first | (rw [hy198]; with_reducible exact H) | (have H2_ := (Option.bind_some _ _).symm.trans H; rw [hy198]; with_reducible exact H2_) | (have H2_ := (Option.bind_some _ _).symm.trans H; with_reducible exact H2_) | with_reducible exact H | (rw [hy198]; exact H) | exact H
               have Ny198 := Aside0.mk hy198
               clear hy198
               have H' := Aside0.mk H
               clear H
               have p170 : 0 ≤ (x45_2 : Int) := of_decide_eq_true (by assumption)
               have q170 : x45_2 < (l2.length : Int) := of_decide_eq_true (by assumption)
               obtain ⟨ad170, e170, hx170_0⟩ := Kd.at_bool HR2.out x45_2 p170 q170
               (try rw [← Nbq14.out] at hx170_0)
               cases e170
               replace hx170_0 := (HB.out.cell (World.block_lt_of_cell? w _ hx170_0)).trans hx170_0
               replace p170 := eq_true p170
               replace q170 := eq_true q170
               try go_wp2
               have n0_ := Aside0.mk (Kd.N_drew HO_11.out)
               have n1_ := Aside0.mk (Kd.N_drew HO_12.out)
               have n2_ := Aside0.mk (Kd.R_drew HO_13.out)
               have n3_ := Aside0.mk (below_drew1 HB.out)
               clear HO_11
               clear HO_12
               clear HO_13
               clear HB
               have HO_11 := n0_
               have HO_12 := n1_
               have HO_13 := n2_
               have HB := n3_
               clear n0_ n1_ n2_ n3_
               obtain ⟨Ao44, co44, eo44⟩ := Kd.R_slice HO_13.out
               (first | subst eo44 | (injection eo44 with f1_ f2_ f3_; have f4_ := f1_.symm; have f5_ := f3_.symm; clear f1_ f2_ f3_; subst f4_; subst f5_))
               refine start_ (n := 15) (S := fun w' => True) (ds := []) #[false, false, false, false, false, false, false, false, false, false, false, false, false, false, false] (by kernel_rfl) rfl rfl trivial (fun hHeld => ?_); refine with_tabW impl_Decode.tab11 impl_Decode.bits11 (fun HT_ HW_ => ?_)
               generalize wr.drew = w43 at HO_11 HO_12 HO_13 HB hHeld ⊢
               refine pure_ (i := 0) (N := some 52) (v := ?_) (a' := ?_) #[true, false, false, false, false, false, false, false, false, false, false, false, false, false, false] rfl rfl (any_of HT_.out (by kernel_rfl)) (fun _ _ _ h => h) (Or.inl ⟨by rfl, ?_⟩) ?_ ?_
               rotate_left
               ·intro w'
                go_simp
                with_reducible rfl
               rotate_left
               ·simp only [Act.put, List.setIfInBounds_toArray, List.set_cons_zero, List.set_cons_succ, i64_w, i32_w]
                rfl
               refine pure_ (i := 1) (N := some 53) (v := ?_) (a' := ?_) #[true, true, false, false, false, false, false, false, false, false, false, false, false, false, false] rfl rfl (any_of HT_.out (by kernel_rfl)) (fun _ _ _ h => h) (Or.inl ⟨by rfl, ?_⟩) ?_ ?_
               rotate_left
               ·intro w'
                go_simp
                with_reducible rfl
               rotate_left
               ·simp only [Act.put, List.setIfInBounds_toArray, List.set_cons_zero, List.set_cons_succ, i64_w, i32_w]
                rfl
               refine pure_ (i := 2) (N := some 54) (v := ?_) (a' := ?_) #[true, true, true, false, false, false, false, false, false, false, false, false, false, false, false] rfl rfl (any_of HT_.out (by kernel_rfl)) (fun _ _ _ h => h) (Or.inl ⟨by rfl, ?_⟩) ?_ ?_
               rotate_left
               ·intro w'
                go_simp
                with_reducible rfl
               rotate_left
               ·simp only [Act.put, List.setIfInBounds_toArray, List.set_cons_zero, List.set_cons_succ, i64_w, i32_w]
                rfl
               refine pure_ (i := 3) (N := some 55) (v := ?_) (a' := ?_) #[true, true, true, true, false, false, false, false, false, false, false, false, false, false, false] rfl rfl (any_of HT_.out (by kernel_rfl)) (fun _ _ _ h => h) (Or.inl ⟨by rfl, ?_⟩) ?_ ?_
               rotate_left
               ·intro w'
                go_simp
                with_reducible rfl
               rotate_left
               ·simp only [Act.put, List.setIfInBounds_toArray, List.set_cons_zero, List.set_cons_succ, i64_w, i32_w]
                rfl
               refine pure_ (i := 4) (N := some 56) (v := undef) (a' := ?_) #[true, true, true, true, true, false, false, false, false, false, false, false, false, false, false] rfl rfl (any_of HT_.out (by kernel_rfl)) (fun _ _ _ h => h) (Or.inr ⟨by rfl, rfl⟩) ?_ ?_
               rotate_left
               ·simp only [Act.put, List.setIfInBounds_toArray, List.set_cons_zero, List.set_cons_succ, i64_w, i32_w]
                rfl
               refine pure_ (i := 5) (N := some 57) (v := undef) (a' := ?_) #[true, true, true, true, true, true, false, false, false, false, false, false, false, false, false] rfl rfl (any_of HT_.out (by kernel_rfl)) (fun _ _ _ h => h) (Or.inr ⟨by rfl, rfl⟩) ?_ ?_
               rotate_left
               ·simp only [Act.put, List.setIfInBounds_toArray, List.set_cons_zero, List.set_cons_succ, i64_w, i32_w]
                rfl
               refine pure_ (i := 6) (N := some 58) (v := undef) (a' := ?_) #[true, true, true, true, true, true, true, false, false, false, false, false, false, false, false] rfl rfl (any_of HT_.out (by kernel_rfl)) (fun _ _ _ h => h) (Or.inr ⟨by rfl, rfl⟩) ?_ ?_
               rotate_left
               ·simp only [Act.put, List.setIfInBounds_toArray, List.set_cons_zero, List.set_cons_succ, i64_w, i32_w]
                rfl
               refine pure_ (i := 7) (N := some 59) (v := undef) (a' := ?_) #[true, true, true, true, true, true, true, true, false, false, false, false, false, false, false] rfl rfl (any_of HT_.out (by kernel_rfl)) (fun _ _ _ h => h) (Or.inr ⟨by rfl, rfl⟩) ?_ ?_
               rotate_left
               ·simp only [Act.put, List.setIfInBounds_toArray, List.set_cons_zero, List.set_cons_succ, i64_w, i32_w]
                rfl
               refine pure_ (i := 8) (N := some 60) (v := undef) (a' := ?_) #[true, true, true, true, true, true, true, true, true, false, false, false, false, false, false] rfl rfl (any_of HT_.out (by kernel_rfl)) (fun _ _ _ h => h) (Or.inr ⟨by rfl, rfl⟩) ?_ ?_
               rotate_left
               ·simp only [Act.put, List.setIfInBounds_toArray, List.set_cons_zero, List.set_cons_succ, i64_w, i32_w]
                rfl
               refine pure_ (i := 9) (N := some 61) (v := undef) (a' := ?_) #[true, true, true, true, true, true, true, true, true, true, false, false, false, false, false] rfl rfl (any_of HT_.out (by kernel_rfl)) (fun _ _ _ h => h) (Or.inr ⟨by rfl, rfl⟩) ?_ ?_
               rotate_left
               ·simp only [Act.put, List.setIfInBounds_toArray, List.set_cons_zero, List.set_cons_succ, i64_w, i32_w]
                rfl
               refine pure_ (i := 10) (N := some 62) (v := undef) (a' := ?_) #[true, true, true, true, true, true, true, true, true, true, true, false, false, false, false] rfl rfl (any_of HT_.out (by kernel_rfl)) (fun _ _ _ h => h) (Or.inr ⟨by rfl, rfl⟩) ?_ ?_
               rotate_left
               ·simp only [Act.put, List.setIfInBounds_toArray, List.set_cons_zero, List.set_cons_succ, i64_w, i32_w]
                rfl
               refine pure_ (i := 11) (N := some 63) (v := undef) (a' := ?_) #[true, true, true, true, true, true, true, true, true, true, true, true, false, false, false] rfl rfl (any_of HT_.out (by kernel_rfl)) (fun _ _ _ h => h) (Or.inr ⟨by rfl, rfl⟩) ?_ ?_
               rotate_left
               ·simp only [Act.put, List.setIfInBounds_toArray, List.set_cons_zero, List.set_cons_succ, i64_w, i32_w]
                rfl
               refine pure_ (i := 12) (N := some 64) (v := undef) (a' := ?_) #[true, true, true, true, true, true, true, true, true, true, true, true, true, false, false] rfl rfl (any_of HT_.out (by kernel_rfl)) (fun _ _ _ h => h) (Or.inr ⟨by rfl, rfl⟩) ?_ ?_
               rotate_left
               ·simp only [Act.put, List.setIfInBounds_toArray, List.set_cons_zero, List.set_cons_succ, i64_w, i32_w]
                rfl
               refine pure_ (i := 13) (N := some 65) (v := undef) (a' := ?_) #[true, true, true, true, true, true, true, true, true, true, true, true, true, true, false] rfl rfl (any_of HT_.out (by kernel_rfl)) (fun _ _ _ h => h) (Or.inr ⟨by rfl, rfl⟩) ?_ ?_
               rotate_left
               ·simp only [Act.put, List.setIfInBounds_toArray, List.set_cons_zero, List.set_cons_succ, i64_w, i32_w]
                rfl
               refine pure_ (i := 14) (N := some 66) (v := ?_) (a' := ?_) #[true, true, true, true, true, true, true, true, true, true, true, true, true, true, true] rfl rfl (any_of HT_.out (by kernel_rfl)) (fun _ _ _ h => h) (Or.inl ⟨by rfl, ?_⟩) ?_ ?_
               rotate_left
               ·intro w'
                go_simp
                with_reducible rfl
               rotate_left
               ·simp only [Act.put, List.setIfInBounds_toArray, List.set_cons_zero, List.set_cons_succ, i64_w, i32_w]
                rfl
               refine done_ (done_of HT_.out (by kernel_rfl)) ?_
               obtain ⟨Ao45, co45, eo45⟩ := Kd.N_slice HO_12.out
               subst eo45
               try go_wp2
               have n0_ := Aside0.mk (Kd.N_drew HO_11.out)
               have n1_ := Aside0.mk (Kd.N_drew HO_12.out)
               have n2_ := Aside0.mk (Kd.R_drew HO_13.out)
               have n3_ := Aside0.mk (below_drew1 HB.out)
               clear HO_11
               clear HO_12
               clear HO_13
               clear HB
               have HO_11 := n0_
               have HO_12 := n1_
               have HO_13 := n2_
               have HB := n3_
               clear n0_ n1_ n2_ n3_
               obtain ⟨Ao47, co47, eo47⟩ := Kd.N_slice HO_11.out
               (first | subst eo47 | (injection eo47 with f1_ f2_ f3_; have f4_ := f1_.symm; have f5_ := f3_.symm; clear f1_ f2_ f3_; subst f4_; subst f5_))
               have p187 : 0 ≤ (x45_2 : Int) := of_decide_eq_true (by assumption)
               have q187 : x45_2 < (t167.length : Int) := of_decide_eq_true (by assumption)
               obtain ⟨ad187, A187_0, c187_0, e187, hx187_0, hl187_0, hi187_0⟩ := at_L1 (Kd.N_reads' HO_11.out).2.2 x45_2 p187 q187
               cases e187
               obtain ⟨ce187, hce187, hMe187, hcc187⟩ := Kd.N_get HO_11.out [] x45_2 p187 (by first | exact q187 | exact of_decide_eq_true (by assumption) | (have e_ := (Kd.N_reads' HO_11.out).1; omega))
               obtain ⟨ua187_0, uc187_0, rfl, ul187_0, ge187_0⟩ := Kd.FK_slice_open hMe187
               have hv187_0 := hcc187 0 _ rfl
               rw [Nat.add_zero, show ((Kd.slice 3 (Kd.int .i64))).sz = 1 from rfl, Nat.mul_one] at hv187_0
               replace hv187_0 := Option.some.inj (hv187_0.symm.trans hx187_0)
               injection hv187_0 with hva_ hvn_ hvc_
               rw [hva_] at ge187_0
               rw [hvc_] at ul187_0
               have HL187_0 := Aside0.mk (show Kd.V (Kd.int .i64) 3 _ w.heap.size _ _ (rd_L1 t167 x45_2) from Kd.V_mk ul187_0 ge187_0)
               clear hva_ hvn_ hvc_ ge187_0 ul187_0
               clear hcc187 hce187
               have HR187_0 := Aside0.mk hi187_0
               have HC187_0 := Aside0.mk hl187_0
               clear hi187_0 hl187_0
               replace p187 := eq_true p187
               replace q187 := eq_true q187
               have p194 : 0 ≤ (x45_2 : Int) := of_decide_eq_true (by assumption)
               have q194 : x45_2 < (l1.length : Int) := of_decide_eq_true (by assumption)
               obtain ⟨ad194, e194, hx194_0⟩ := Kd.at_string HR1.out x45_2 p194 q194
               have hw194_0 := hx194_0
               cases e194
               replace hx194_0 := (HB.out.cell (World.block_lt_of_cell? w _ hx194_0)).trans hx194_0
               replace p194 := eq_true p194
               replace q194 := eq_true q194
               refine start_ (n := 16) (S := fun w' => w'.cell? (ad187.add (x45_2).toNat) = some (.slice A187_0 (rd_L1 t167 x45_2).length c187_0) ∧ w'.cell? (ad194.add (x45_2).toNat) = some (.string (rdOf ByteArray.empty l1 x45_2))) (ds := []) #[false, false, false, false, false, false, false, false, false, false, false, false, false, false, false, false] (by kernel_rfl) rfl rfl ⟨hx187_0, ((HB.out.cell (World.block_lt_of_cell? w _ hw194_0)).trans hw194_0)⟩ (fun hHeld => ?_); refine with_tabW impl_Decode.tab13 impl_Decode.bits13 (fun HT_ HW_ => ?_)
               generalize w43.drew = w46 at HO_11 HO_12 HO_13 HB HL187_0 HR187_0 hx187_0 hx194_0 hHeld ⊢
               refine pure_ (i := 0) (N := some 67) (v := ?_) (a' := ?_) #[true, false, false, false, false, false, false, false, false, false, false, false, false, false, false, false] rfl rfl (any_of HT_.out (by kernel_rfl)) (fun _ _ _ h => h) (Or.inl ⟨by rfl, ?_⟩) ?_ ?_
               rotate_left
               ·intro w'
                go_simp
                with_reducible rfl
               rotate_left
               ·simp only [Act.put, List.setIfInBounds_toArray, List.set_cons_zero, List.set_cons_succ, i64_w, i32_w]
                rfl
               refine pure_ (i := 1) (N := some 68) (v := ?_) (a' := ?_) #[true, true, false, false, false, false, false, false, false, false, false, false, false, false, false, false] rfl rfl (any_of HT_.out (by kernel_rfl)) (fun _ _ _ h => h) (Or.inl ⟨by rfl, ?_⟩) ?_ ?_
               rotate_left
               ·intro w'
                go_simp
                with_reducible rfl
               rotate_left
               ·simp only [Act.put, List.setIfInBounds_toArray, List.set_cons_zero, List.set_cons_succ, i64_w, i32_w]
                rfl
               refine pure_ (i := 2) (N := some 69) (v := ?_) (a' := ?_) #[true, true, true, false, false, false, false, false, false, false, false, false, false, false, false, false] rfl rfl (any_of HT_.out (by kernel_rfl)) (fun _ _ _ h => h) (Or.inl ⟨by rfl, ?_⟩) ?_ ?_
               rotate_left
               ·intro w'
                go_simp
                with_reducible rfl
               rotate_left
               ·simp only [Act.put, List.setIfInBounds_toArray, List.set_cons_zero, List.set_cons_succ, i64_w, i32_w]
                rfl
               refine pure_ (i := 3) (N := some 70) (v := ?_) (a' := ?_) #[true, true, true, true, false, false, false, false, false, false, false, false, false, false, false, false] rfl rfl (any_of HT_.out (by kernel_rfl)) (fun _ _ _ h => h) (Or.inl ⟨by rfl, ?_⟩) ?_ ?_
               rotate_left
               ·intro w'
                go_simp
                with_reducible rfl
               rotate_left
               ·simp only [Act.put, List.setIfInBounds_toArray, List.set_cons_zero, List.set_cons_succ, i64_w, i32_w]
                rfl
               refine pure_ (i := 7) (N := some 74) (v := ?_) (a' := ?_) #[true, true, true, true, false, false, false, true, false, false, false, false, false, false, false, false] rfl rfl (any_of HT_.out (by kernel_rfl)) (fun _ _ _ h => h) (Or.inl ⟨by rfl, ?_⟩) ?_ ?_
               rotate_left
               ·intro w'
                go_simp
                with_reducible rfl
               rotate_left
               ·simp only [Act.put, List.setIfInBounds_toArray, List.set_cons_zero, List.set_cons_succ, i64_w, i32_w]
                rfl
               refine pure_ (i := 8) (N := some 75) (v := ?_) (a' := ?_) #[true, true, true, true, false, false, false, true, true, false, false, false, false, false, false, false] rfl rfl (any_of HT_.out (by kernel_rfl)) (fun _ _ _ h => h) (Or.inl ⟨by rfl, ?_⟩) ?_ ?_
               rotate_left
               ·intro w'
                go_simp
                with_reducible rfl
               rotate_left
               ·simp only [Act.put, List.setIfInBounds_toArray, List.set_cons_zero, List.set_cons_succ, i64_w, i32_w]
                rfl
               refine pure_ (i := 9) (N := some 76) (v := ?_) (a' := ?_) #[true, true, true, true, false, false, false, true, true, true, false, false, false, false, false, false] rfl rfl (any_of HT_.out (by kernel_rfl)) (fun _ _ _ h => h) (Or.inl ⟨by rfl, ?_⟩) ?_ ?_
               rotate_left
               ·intro w'
                go_simp
                with_reducible rfl
               rotate_left
               ·simp only [Act.put, List.setIfInBounds_toArray, List.set_cons_zero, List.set_cons_succ, i64_w, i32_w]
                rfl
               refine pure_ (i := 10) (N := some 77) (v := ?_) (a' := ?_) #[true, true, true, true, false, false, false, true, true, true, true, false, false, false, false, false] rfl rfl (any_of HT_.out (by kernel_rfl)) (fun _ _ _ h => h) (Or.inl ⟨by rfl, ?_⟩) ?_ ?_
               rotate_left
               ·intro w'
                go_simp
                with_reducible rfl
               rotate_left
               ·simp only [Act.put, List.setIfInBounds_toArray, List.set_cons_zero, List.set_cons_succ, i64_w, i32_w]
                rfl
               refine take_ (i := 4) (N := some 71) (v := ?_) (a' := ?_) #[true, true, true, true, true, false, false, true, true, true, true, false, false, false, false, false] rfl rfl (take_ofW HT_.out HW_.out (by kernel_rfl)) (fun _ _ _ h => h) (Or.inl ⟨by rfl, ?_⟩) hHeld ?_ ?_
               rotate_left
               ·rintro w' ⟨s0, s1⟩
                go_simp
                with_reducible rfl
               rotate_left
               ·simp only [Act.put, List.setIfInBounds_toArray, List.set_cons_zero, List.set_cons_succ, i64_w, i32_w]
                rfl
               refine take_ (i := 11) (N := some 78) (v := ?_) (a' := ?_) #[true, true, true, true, true, false, false, true, true, true, true, true, false, false, false, false] rfl rfl (take_ofW HT_.out HW_.out (by kernel_rfl)) (fun _ _ _ h => h) (Or.inl ⟨by rfl, ?_⟩) hHeld ?_ ?_
               rotate_left
               ·rintro w' ⟨s0, s1⟩
                go_simp
                with_reducible rfl
               rotate_left
               ·simp only [Act.put, List.setIfInBounds_toArray, List.set_cons_zero, List.set_cons_succ, i64_w, i32_w]
                rfl
               refine join_ (σ := Value × Value × Value) 3 #[true, true, true, true, true, true, true, true, true, true, true, true, true, false, false, false] (fun s_ => [(72, s_.1), (73, s_.2.1), (79, s_.2.2)]) (fun s_ w' => (w'.cell? (ad187.add (x45_2).toNat) = some (.slice A187_0 (rd_L1 t167 x45_2).length c187_0) ∧ w'.cell? (ad194.add (x45_2).toNat) = some (.string (rdOf ByteArray.empty l1 x45_2))) ∧ (Kd.V (Kd.int .i64) 3 w' w.heap.size (fun k_ => some k_ ≠ (s_.1 : Value).ownBlock ∧ some k_ ≠ (s_.2.1 : Value).ownBlock ∧ some k_ ≠ (s_.2.2 : Value).ownBlock ∧ some k_ ≠ (.slice (some ad187) t167.length co47 : Value).ownBlock ∧ some k_ ≠ (.slice Ao44 x13_2.length co44 : Value).ownBlock) (.slice A187_0 (rd_L1 t167 x45_2).length c187_0) (rd_L1 t167 x45_2)) ∧ (Kd.N (Kd.slice 3 (Kd.int .i64)) 32 w' w.heap.size (fun k_ => some k_ ≠ (s_.2.1 : Value).ownBlock ∧ some k_ ≠ (s_.2.2 : Value).ownBlock ∧ some k_ ≠ (.slice (some ad187) t167.length co47 : Value).ownBlock ∧ some k_ ≠ (.slice Ao44 x13_2.length co44 : Value).ownBlock) s_.1 y188) ∧ (Kd.N (Kd.slice 3 (Kd.int .i64)) 32 w' w.heap.size (fun k_ => some k_ ≠ (s_.2.2 : Value).ownBlock ∧ some k_ ≠ (.slice (some ad187) t167.length co47 : Value).ownBlock ∧ some k_ ≠ (.slice Ao44 x13_2.length co44 : Value).ownBlock) s_.2.1 y191) ∧ (Kd.R Kd.string 9 w' w.heap.size (fun k_ => some k_ ≠ (.slice Ao44 x13_2.length co44 : Value).ownBlock) s_.2.2 y195) ∧ (Kd.N (Kd.slice 3 (Kd.int .i64)) 32 w' w.heap.size (fun k_ => some k_ ≠ (s_.1 : Value).ownBlock ∧ some k_ ≠ (s_.2.1 : Value).ownBlock ∧ some k_ ≠ (s_.2.2 : Value).ownBlock ∧ some k_ ≠ (.slice Ao44 x13_2.length co44 : Value).ownBlock) (.slice (some ad187) t167.length co47) t167) ∧ (Kd.R Kd.string 9 w' w.heap.size (fun k_ => some k_ ≠ (s_.2.2 : Value).ownBlock) (.slice Ao44 x13_2.length co44) x13_2) ∧ (Below w.heap.size w w')) ?_ ?_
               rotate_left
               ·intro hCont
                refine two_ (i := 5) (j := 12) (Ni := some 72) (Nj := some 79) #[true, true, true, true, true, true, false, true, true, true, true, true, false, false, false, false] #[true, true, true, true, true, false, false, true, true, true, true, true, true, false, false, false] rfl rfl rfl rfl (two_of HT_.out (by kernel_rfl)) (by decide) (by decide) (fun K hK => ?_) (fun K hK => ?_)
                ·skip
                 refine Kd.N_lit_step (Kd.slice 3 (Kd.int .i64)) _ 32 ?hg (N' := 72) ?hd (xs := ([rd_L1 t167 x45_2] : List (List Int))) (inner := [.slice A187_0 (rd_L1 t167 x45_2).length c187_0]) (ok := (fun k_ => some k_ ≠ (.slice (some ad187) t167.length co47 : Value).ownBlock ∧ some k_ ≠ (.slice Ao45 x12_2.length co45 : Value).ownBlock ∧ some k_ ≠ (.slice Ao44 x13_2.length co44 : Value).ownBlock)) (okp := (fun k_ => some k_ ≠ (.slice (some ad187) t167.length co47 : Value).ownBlock ∧ some k_ ≠ (.slice Ao45 x12_2.length co45 : Value).ownBlock ∧ some k_ ≠ (.slice Ao44 x13_2.length co44 : Value).ownBlock)) ?hr ?hp (fun _ hk => hk) ((show ∀ k_, w46.heap.size ≤ k_ → (fun k_ => some k_ ≠ (.slice (some ad187) t167.length co47 : Value).ownBlock ∧ some k_ ≠ (.slice Ao45 x12_2.length co45 : Value).ownBlock ∧ some k_ ≠ (.slice Ao44 x13_2.length co44 : Value).ownBlock) k_ from fun k_ hk => ⟨Kd.fresh' (Kd.N_lt (by exact HO_11.out)) k_ hk, Kd.fresh' (Kd.N_lt (by exact HO_12.out)) k_ hk, Kd.fresh' (Kd.R_lt (by exact HO_13.out)) k_ hk⟩) _ (Nat.le_refl _)) (Below.refl _ _) (Nat.le_refl _) (by simp) ?_; (case hd => rfl); (case hg => rfl); (case hr => first | (go_simp; done) | (go_simp; rfl)); (case hp => exact (Reps.one (show Kd.FK (Kd.slice 3 (Kd.int .i64)) _ _ (rd_L1 t167 x45_2) [.slice A187_0 (rd_L1 t167 x45_2).length c187_0] from (Kd.FK_slice_mk (Kd.V_reads' (Kd.V_mono (ok' := (fun k_ => some k_ ≠ (.slice (some ad187) t167.length co47 : Value).ownBlock ∧ some k_ ≠ (.slice Ao45 x12_2.length co45 : Value).ownBlock ∧ some k_ ≠ (.slice Ao44 x13_2.length co44 : Value).ownBlock)) (HL187_0.out) (fun k_ hk => ⟨hk.2, ⟨hk.1.1, hk.1.2⟩⟩))).2.1 (Kd.V_F (Kd.V_mono (ok' := (fun k_ => some k_ ≠ (.slice (some ad187) t167.length co47 : Value).ownBlock ∧ some k_ ≠ (.slice Ao45 x12_2.length co45 : Value).ownBlock ∧ some k_ ≠ (.slice Ao44 x13_2.length co44 : Value).ownBlock)) (HL187_0.out) (fun k_ hk => ⟨hk.2, ⟨hk.1.1, hk.1.2⟩⟩))))) (Reps.none _ _)))
                 intro v189 w48 ho49 hb hg_ hnew_
                 have HS0_ := (hb.cell (World.block_lt_of_cell? _ _ (hHeld.1))).trans (hHeld.1)
                 clear hg_ hnew_
                 (first | rw [← Ny188.out] at ho49 | (simp only [Int.reduceToNat] at ho49; rw [← Ny188.out] at ho49))
                 have n0_ := Aside0.mk (Kd.N_elder' (by exact HO_11.out) (Kd.N_base ho49) hb)
                 have n1_ := Aside0.mk (Kd.N_elder' (by exact HO_12.out) (Kd.N_base ho49) hb)
                 have n2_ := Aside0.mk (Kd.R_below (by exact HO_13.out) hb)
                 have n3_ := Aside0.mk (Kd.V_elder' (by exact HL187_0.out) (Kd.N_base ho49) hb)
                 have n4_ := Aside0.mk (Kd.N_lower ho49 (below_size (by repeat (first | exact HB.out | apply below_alloc | apply pw_below_drewN | apply below_drew1))))
                 have n5_ := Aside0.mk (Kd.C_below (by repeat (first | (with_reducible exact HR187_0.out) | (with_reducible refine Kd.C_alloc ?_ _) | (with_reducible refine Kd.C_drewN ?_ _) | (with_reducible refine Kd.C_drew ?_) | exact HR187_0.out)) hb)
                 have n6_ := Aside0.mk (below_step (by repeat (first | exact HB.out | apply below_alloc | apply pw_below_drewN | apply below_drew1)) hb)
                 clear HO_11
                 clear HO_12
                 clear HO_13
                 clear HL187_0
                 clear HR187_0
                 clear HB
                 have HO_11 := n0_
                 have HO_12 := n1_
                 have HO_13 := n2_
                 have HL187_0 := n3_
                 have HO190 := n4_
                 have HR187_0 := n5_
                 have HB := n6_
                 clear n0_ n1_ n2_ n3_ n4_ n5_ n6_
                 clear hb ho49
                 obtain ⟨Ao51, co51, eo51⟩ := Kd.N_slice HO190.out
                 (first | subst eo51 | (injection eo51 with f1_ f2_ f3_; have f4_ := f1_.symm; have f5_ := f3_.symm; clear f1_ f2_ f3_; subst f4_; subst f5_))
                 refine hK.out _ _ ⟨HS0_, ((HB.out.cell (World.block_lt_of_cell? w _ hw194_0)).trans hw194_0)⟩ (fun hHeld => ?_)
                 clear hK K
                 refine norm_ (a' := ?_) ?_ ?_
                 rotate_left
                 ·show Act.put _ (some 72) _ = _
                  simp only [Act.put, List.setIfInBounds_toArray, List.set_cons_zero, List.set_cons_succ, i64_w, i32_w]
                  rfl
                 refine two_ (i := 6) (j := 12) (Ni := some 73) (Nj := some 79) #[true, true, true, true, true, true, true, true, true, true, true, true, false, false, false, false] #[true, true, true, true, true, true, false, true, true, true, true, true, true, false, false, false] rfl rfl rfl rfl (two_of HT_.out (by kernel_rfl)) (by decide) (by decide) (fun K hK => ?_) (fun K hK => ?_)
                 ·skip
                  refine Kd.N_append_rows_step (Kd.slice 3 (Kd.int .i64)) (w0 := w) w.heap.size (by rfl) (.tmp 67) (.tmp 72) 49 32 (.slice none 0 0) 24 rfl Try.underlying49 info32 rfl (by decide) (by omega) (.slice Ao45 x12_2.length co45) x12_2 y188 _ _ _ (fun k_ => some k_ ≠ (.slice (some ad187) t167.length co47 : Value).ownBlock ∧ some k_ ≠ (.slice Ao44 x13_2.length co44 : Value).ownBlock) (fun k_ => ((fun k_ => some k_ ≠ (.slice (some ad187) t167.length co47 : Value).ownBlock ∧ some k_ ≠ (.slice Ao44 x13_2.length co44 : Value).ownBlock)) k_ ∧ some k_ ≠ (.slice Ao45 x12_2.length co45 : Value).ownBlock) rfl rfl ?aO ?aR (fun _ hk => hk) ?aF ?aB ?aS ?aL ?_
                  (case aR => exact (by skip; exact Kd.N_F (Kd.N_mono (ok' := (fun k_ => ((fun k_ => some k_ ≠ (.slice (some ad187) t167.length co47 : Value).ownBlock ∧ some k_ ≠ (.slice Ao44 x13_2.length co44 : Value).ownBlock)) k_ ∧ some k_ ≠ (.slice Ao45 x12_2.length co45 : Value).ownBlock)) (HO190.out) (fun k_ hk => ⟨⟨hk.1, hk.2.2⟩, hk.2.1⟩))))
                  (case aB => exact (by repeat (first | exact HB.out | apply below_alloc | apply pw_below_drewN | apply below_drew1)))
                  (case aF => exact (fun k_ hk => ⟨Kd.fresh' (Kd.N_lt (by exact HO_11.out)) k_ hk, Kd.fresh' (Kd.R_lt (by exact HO_13.out)) k_ hk⟩))
                  (case aO => exact (by exact Kd.N_mono HO_12.out (fun _ hk => ⟨hk.1.1, hk.1.2⟩)))
                  (case aS => exact (below_size (by repeat (first | exact HB.out | apply below_alloc | apply pw_below_drewN | apply below_drew1))))
                  (case aL => have := LMc40.out; omega)
                  intro v192 w50 ho hb hg hat
                  have HS0_ := cell_grown hg (hHeld.1) (by have h_ := HO_11.out.1 _ rfl; first | (rw [add_block]; first | exact h_ | exact h_.1 | exact h_.2 | exact h_.1.1 | exact h_.1.2 | exact h_.2.1 | exact h_.2.2 | exact h_.1.1.1 | exact h_.1.1.2 | exact h_.1.2.1 | exact h_.1.2.2 | exact h_.2.1.1 | exact h_.2.1.2 | exact h_.2.2.1 | exact h_.2.2.2 | exact h_.1.1.1.1 | exact h_.1.1.1.2 | exact h_.1.1.2.1 | exact h_.1.1.2.2 | exact h_.1.2.1.1 | exact h_.1.2.1.2 | exact h_.1.2.2.1 | exact h_.1.2.2.2 | exact h_.2.1.1.1 | exact h_.2.1.1.2 | exact h_.2.1.2.1 | exact h_.2.1.2.2 | exact h_.2.2.1.1 | exact h_.2.2.1.2 | exact h_.2.2.2.1 | exact h_.2.2.2.2) | (show some (Addr.add _ _).block ≠ _; rw [add_block]; first | exact h_ | exact h_.1 | exact h_.2 | exact h_.1.1 | exact h_.1.2 | exact h_.2.1 | exact h_.2.2 | exact h_.1.1.1 | exact h_.1.1.2 | exact h_.1.2.1 | exact h_.1.2.2 | exact h_.2.1.1 | exact h_.2.1.2 | exact h_.2.2.1 | exact h_.2.2.2 | exact h_.1.1.1.1 | exact h_.1.1.1.2 | exact h_.1.1.2.1 | exact h_.1.1.2.2 | exact h_.1.2.1.1 | exact h_.1.2.1.2 | exact h_.1.2.2.1 | exact h_.1.2.2.2 | exact h_.2.1.1.1 | exact h_.2.1.1.2 | exact h_.2.1.2.1 | exact h_.2.1.2.2 | exact h_.2.2.1.1 | exact h_.2.2.1.2 | exact h_.2.2.2.1 | exact h_.2.2.2.2) | (first | exact h_ | exact h_.1 | exact h_.2 | exact h_.1.1 | exact h_.1.2 | exact h_.2.1 | exact h_.2.2 | exact h_.1.1.1 | exact h_.1.1.2 | exact h_.1.2.1 | exact h_.1.2.2 | exact h_.2.1.1 | exact h_.2.1.2 | exact h_.2.2.1 | exact h_.2.2.2 | exact h_.1.1.1.1 | exact h_.1.1.1.2 | exact h_.1.1.2.1 | exact h_.1.1.2.2 | exact h_.1.2.1.1 | exact h_.1.2.1.2 | exact h_.1.2.2.1 | exact h_.1.2.2.2 | exact h_.2.1.1.1 | exact h_.2.1.1.2 | exact h_.2.1.2.1 | exact h_.2.1.2.2 | exact h_.2.2.1.1 | exact h_.2.2.1.2 | exact h_.2.2.2.1 | exact h_.2.2.2.2))
                  rw [← Ny191.out] at ho
                  have n0_ := Aside0.mk (Kd.N_afterv (ok := (fun k_ => some k_ ≠ (.slice Ao44 x13_2.length co44 : Value).ownBlock ∧ some k_ ≠ (.slice Ao51 y188.length co51 : Value).ownBlock)) (by exact Kd.N_mono HO_11.out (fun _ hk => ⟨⟨hk.1.2, hk.2⟩, hk.1.1⟩)) hg hat)
                  have n1_ := Aside0.mk (Kd.R_over' (by exact HO_13.out) (Kd.N_typed (by exact HO_12.out)) (by decide) hg)
                  have n2_ := Aside0.mk (Kd.V_afterv (ok := (fun k_ => some k_ ≠ (.slice (some ad187) t167.length co47 : Value).ownBlock ∧ some k_ ≠ (.slice Ao44 x13_2.length co44 : Value).ownBlock ∧ some k_ ≠ (.slice Ao51 y188.length co51 : Value).ownBlock)) (by exact Kd.V_mono HL187_0.out (fun _ hk => ⟨⟨hk.1.2, ⟨hk.1.1.2, hk.2⟩⟩, hk.1.1.1⟩)) hg hat)
                  have n3_ := Aside0.mk (Kd.N_afterv (ok := (fun k_ => some k_ ≠ (.slice (some ad187) t167.length co47 : Value).ownBlock ∧ some k_ ≠ (.slice Ao44 x13_2.length co44 : Value).ownBlock)) (by exact Kd.N_mono HO190.out (fun _ hk => ⟨⟨hk.1, hk.2.2⟩, hk.2.1⟩)) hg hat)
                  have n4_ := Aside0.mk (hb)
                  have n5_ := Aside0.mk (ho)
                  clear HO_11
                  clear HO_13
                  clear HL187_0
                  clear HO190
                  clear HB
                  clear HO_12
                  have HO_11 := n0_
                  have HO_13 := n1_
                  have HL187_0 := n2_
                  have HO190 := n3_
                  have HB := n4_
                  have HO193 := n5_
                  clear n0_ n1_ n2_ n3_ n4_ n5_
                  clear ho hb hg hat
                  refine hK.out _ _ ⟨HS0_, ((HB.out.cell (World.block_lt_of_cell? w _ hw194_0)).trans hw194_0)⟩ (fun hHeld => ?_)
                  clear hK K
                  refine norm_ (a' := ?_) ?_ ?_
                  rotate_left
                  ·show Act.put _ (some 73) _ = _
                   simp only [Act.put, List.setIfInBounds_toArray, List.set_cons_zero, List.set_cons_succ, i64_w, i32_w]
                   rfl
                  refine one_ (i := 12) (N := some 79) #[true, true, true, true, true, true, true, true, true, true, true, true, true, false, false, false] rfl rfl (one_of HT_.out (by kernel_rfl)) (by decide) (fun K hK => ?_)
                  refine Kd.R_lit_step Kd.string _ 9 ?hg (N := 79) ?hd (xs := ([rdOf ByteArray.empty l1 x45_2] : List ByteArray)) (inner := [.string (rdOf ByteArray.empty l1 x45_2)]) (ok := fun _ => True) (okp := fun _ => True) ?hr ?hp (fun _ hk => hk) trivial (Below.refl _ _) (Nat.le_refl _) (by simp) ?_; (case hd => rfl); (case hg => rfl); (case hr => first | (go_simp; done) | (go_simp; rfl)); (case hp => exact (Reps.one (show Kd.M Kd.string _ _ _ (rdOf ByteArray.empty l1 x45_2) [.string (rdOf ByteArray.empty l1 x45_2)] from rfl) (Reps.none _ _)))
                  intro v196 w52 ho53 hb hg_ hnew_
                  have HS0_ := (hb.cell (World.block_lt_of_cell? _ _ (hHeld.1))).trans (hHeld.1)
                  clear hg_ hnew_
                  (first | rw [← Ny195.out] at ho53 | (simp only [Int.reduceToNat] at ho53; rw [← Ny195.out] at ho53))
                  have n0_ := Aside0.mk (Kd.N_elder' (by exact HO_11.out) (Kd.R_base ho53) hb)
                  have n1_ := Aside0.mk (Kd.R_elder' (by exact HO_13.out) (Kd.R_base ho53) hb)
                  have n2_ := Aside0.mk (Kd.V_elder' (by exact HL187_0.out) (Kd.R_base ho53) hb)
                  have n3_ := Aside0.mk (Kd.N_elder' (by exact HO190.out) (Kd.R_base ho53) hb)
                  have n4_ := Aside0.mk (Kd.N_elder' (by exact HO193.out) (Kd.R_base ho53) hb)
                  have n5_ := Aside0.mk (Kd.R_lower (Kd.R_new' ho53 (Kd.R_lt (by exact HO_13.out))) (below_size (by repeat (first | exact HB.out | apply below_alloc | apply pw_below_drewN | apply below_drew1))))
                  have n6_ := Aside0.mk (below_step (by repeat (first | exact HB.out | apply below_alloc | apply pw_below_drewN | apply below_drew1)) hb)
                  clear HO_11
                  clear HO_13
                  clear HL187_0
                  clear HO190
                  clear HO193
                  clear HB
                  have HO_11 := n0_
                  have HO_13 := n1_
                  have HL187_0 := n2_
                  have HO190 := n3_
                  have HO193 := n4_
                  have HO197 := n5_
                  have HB := n6_
                  clear n0_ n1_ n2_ n3_ n4_ n5_ n6_
                  clear hb ho53
                  refine hK.out _ _ ⟨HS0_, ((HB.out.cell (World.block_lt_of_cell? w _ hw194_0)).trans hw194_0)⟩ (fun hHeld => ?_)
                  clear hK K
                  refine norm_ (a' := ?_) ?_ ?_
                  rotate_left
                  ·show Act.put _ (some 79) _ = _
                   simp only [Act.put, List.setIfInBounds_toArray, List.set_cons_zero, List.set_cons_succ, i64_w, i32_w]
                   rfl
                  exact norm_ (by simp only [putAll, Act.put, List.setIfInBounds_toArray, List.set_cons_zero, List.set_cons_succ]) (hCont (.slice Ao51 y188.length co51, v192, v196) _ ⟨hHeld, (by exact Kd.V_mono HL187_0.out (fun _ hk => ⟨hk.1.1.2.2, ⟨hk.1.2, ⟨hk.2, ⟨hk.1.1.1, hk.1.1.2.1⟩⟩⟩⟩)), (by exact Kd.N_mono HO190.out (fun _ hk => ⟨hk.1.2, ⟨hk.2, ⟨hk.1.1.1, hk.1.1.2⟩⟩⟩)), (by exact Kd.N_mono HO193.out (fun _ hk => ⟨hk.2, ⟨hk.1.1, hk.1.2⟩⟩)), (by exact Kd.R_mono HO197.out (fun _ hk => hk.2)), (by exact Kd.N_mono HO_11.out (fun _ hk => ⟨hk.1.1.2, ⟨hk.1.2, ⟨hk.2, hk.1.1.1⟩⟩⟩)), (by exact Kd.R_mono HO_13.out (fun _ hk => hk.2)), (by repeat (first | exact HB.out | apply below_alloc | apply pw_below_drewN | apply below_drew1))⟩)
                 ·skip
                  refine Kd.R_lit_step Kd.string _ 9 ?hg (N := 79) ?hd (xs := ([rdOf ByteArray.empty l1 x45_2] : List ByteArray)) (inner := [.string (rdOf ByteArray.empty l1 x45_2)]) (ok := fun _ => True) (okp := fun _ => True) ?hr ?hp (fun _ hk => hk) trivial (Below.refl _ _) (Nat.le_refl _) (by simp) ?_; (case hd => rfl); (case hg => rfl); (case hr => first | (go_simp; done) | (go_simp; rfl)); (case hp => exact (Reps.one (show Kd.M Kd.string _ _ _ (rdOf ByteArray.empty l1 x45_2) [.string (rdOf ByteArray.empty l1 x45_2)] from rfl) (Reps.none _ _)))
                  intro v196 w50 ho51 hb hg_ hnew_
                  have HS0_ := (hb.cell (World.block_lt_of_cell? _ _ (hHeld.1))).trans (hHeld.1)
                  clear hg_ hnew_
                  (first | rw [← Ny195.out] at ho51 | (simp only [Int.reduceToNat] at ho51; rw [← Ny195.out] at ho51))
                  have n0_ := Aside0.mk (Kd.N_elder' (by exact HO_11.out) (Kd.R_base ho51) hb)
                  have n1_ := Aside0.mk (Kd.N_elder' (by exact HO_12.out) (Kd.R_base ho51) hb)
                  have n2_ := Aside0.mk (Kd.R_elder' (by exact HO_13.out) (Kd.R_base ho51) hb)
                  have n3_ := Aside0.mk (Kd.V_elder' (by exact HL187_0.out) (Kd.R_base ho51) hb)
                  have n4_ := Aside0.mk (Kd.N_elder' (by exact HO190.out) (Kd.R_base ho51) hb)
                  have n5_ := Aside0.mk (Kd.R_lower (Kd.R_new' ho51 (Kd.R_lt (by exact HO_13.out))) (below_size (by repeat (first | exact HB.out | apply below_alloc | apply pw_below_drewN | apply below_drew1))))
                  have n6_ := Aside0.mk (Kd.C_below (by repeat (first | (with_reducible exact HR187_0.out) | (with_reducible refine Kd.C_alloc ?_ _) | (with_reducible refine Kd.C_drewN ?_ _) | (with_reducible refine Kd.C_drew ?_) | exact HR187_0.out)) hb)
                  have n7_ := Aside0.mk (below_step (by repeat (first | exact HB.out | apply below_alloc | apply pw_below_drewN | apply below_drew1)) hb)
                  clear HO_11
                  clear HO_12
                  clear HO_13
                  clear HL187_0
                  clear HO190
                  clear HR187_0
                  clear HB
                  have HO_11 := n0_
                  have HO_12 := n1_
                  have HO_13 := n2_
                  have HL187_0 := n3_
                  have HO190 := n4_
                  have HO197 := n5_
                  have HR187_0 := n6_
                  have HB := n7_
                  clear n0_ n1_ n2_ n3_ n4_ n5_ n6_ n7_
                  clear hb ho51
                  obtain ⟨Ao53, co53, eo53⟩ := Kd.N_slice HO190.out
                  (first | subst eo53 | (injection eo53 with f1_ f2_ f3_; have f4_ := f1_.symm; have f5_ := f3_.symm; clear f1_ f2_ f3_; subst f4_; subst f5_))
                  refine hK.out _ _ ⟨HS0_, ((HB.out.cell (World.block_lt_of_cell? w _ hw194_0)).trans hw194_0)⟩ (fun hHeld => ?_)
                  clear hK K
                  refine norm_ (a' := ?_) ?_ ?_
                  rotate_left
                  ·show Act.put _ (some 79) _ = _
                   simp only [Act.put, List.setIfInBounds_toArray, List.set_cons_zero, List.set_cons_succ, i64_w, i32_w]
                   rfl
                  refine one_ (i := 6) (N := some 73) #[true, true, true, true, true, true, true, true, true, true, true, true, true, false, false, false] rfl rfl (one_of HT_.out (by kernel_rfl)) (by decide) (fun K hK => ?_)
                  refine Kd.N_append_rows_step (Kd.slice 3 (Kd.int .i64)) (w0 := w) w.heap.size (by rfl) (.tmp 67) (.tmp 72) 49 32 (.slice none 0 0) 24 rfl Try.underlying49 info32 rfl (by decide) (by omega) (.slice Ao45 x12_2.length co45) x12_2 y188 _ _ _ (fun k_ => some k_ ≠ (.slice (some ad187) t167.length co47 : Value).ownBlock ∧ some k_ ≠ (.slice Ao44 x13_2.length co44 : Value).ownBlock ∧ some k_ ≠ (v196 : Value).ownBlock) (fun k_ => ((fun k_ => some k_ ≠ (.slice (some ad187) t167.length co47 : Value).ownBlock ∧ some k_ ≠ (.slice Ao44 x13_2.length co44 : Value).ownBlock ∧ some k_ ≠ (v196 : Value).ownBlock)) k_ ∧ some k_ ≠ (.slice Ao45 x12_2.length co45 : Value).ownBlock) rfl rfl ?aO ?aR (fun _ hk => hk) ?aF ?aB ?aS ?aL ?_
                  (case aR => exact (by skip; exact Kd.N_F (Kd.N_mono (ok' := (fun k_ => ((fun k_ => some k_ ≠ (.slice (some ad187) t167.length co47 : Value).ownBlock ∧ some k_ ≠ (.slice Ao44 x13_2.length co44 : Value).ownBlock ∧ some k_ ≠ (v196 : Value).ownBlock)) k_ ∧ some k_ ≠ (.slice Ao45 x12_2.length co45 : Value).ownBlock)) (HO190.out) (fun k_ hk => ⟨⟨hk.1.1, ⟨hk.1.2.2, hk.2⟩⟩, hk.1.2.1⟩))))
                  (case aB => exact (by repeat (first | exact HB.out | apply below_alloc | apply pw_below_drewN | apply below_drew1)))
                  (case aF => exact (fun k_ hk => ⟨Kd.fresh' (Kd.N_lt (by exact HO_11.out)) k_ hk, Kd.fresh' (Kd.R_lt (by exact HO_13.out)) k_ hk, Kd.fresh' (Kd.R_lt (by exact HO197.out)) k_ hk⟩))
                  (case aO => exact (by exact Kd.N_mono HO_12.out (fun _ hk => ⟨hk.1.1.1, ⟨hk.1.1.2, hk.2⟩⟩)))
                  (case aS => exact (below_size (by repeat (first | exact HB.out | apply below_alloc | apply pw_below_drewN | apply below_drew1))))
                  (case aL => have := LMc40.out; omega)
                  intro v192 w52 ho hb hg hat
                  have HS0_ := cell_grown hg (hHeld.1) (by have h_ := HO_11.out.1 _ rfl; first | (rw [add_block]; first | exact h_ | exact h_.1 | exact h_.2 | exact h_.1.1 | exact h_.1.2 | exact h_.2.1 | exact h_.2.2 | exact h_.1.1.1 | exact h_.1.1.2 | exact h_.1.2.1 | exact h_.1.2.2 | exact h_.2.1.1 | exact h_.2.1.2 | exact h_.2.2.1 | exact h_.2.2.2 | exact h_.1.1.1.1 | exact h_.1.1.1.2 | exact h_.1.1.2.1 | exact h_.1.1.2.2 | exact h_.1.2.1.1 | exact h_.1.2.1.2 | exact h_.1.2.2.1 | exact h_.1.2.2.2 | exact h_.2.1.1.1 | exact h_.2.1.1.2 | exact h_.2.1.2.1 | exact h_.2.1.2.2 | exact h_.2.2.1.1 | exact h_.2.2.1.2 | exact h_.2.2.2.1 | exact h_.2.2.2.2) | (show some (Addr.add _ _).block ≠ _; rw [add_block]; first | exact h_ | exact h_.1 | exact h_.2 | exact h_.1.1 | exact h_.1.2 | exact h_.2.1 | exact h_.2.2 | exact h_.1.1.1 | exact h_.1.1.2 | exact h_.1.2.1 | exact h_.1.2.2 | exact h_.2.1.1 | exact h_.2.1.2 | exact h_.2.2.1 | exact h_.2.2.2 | exact h_.1.1.1.1 | exact h_.1.1.1.2 | exact h_.1.1.2.1 | exact h_.1.1.2.2 | exact h_.1.2.1.1 | exact h_.1.2.1.2 | exact h_.1.2.2.1 | exact h_.1.2.2.2 | exact h_.2.1.1.1 | exact h_.2.1.1.2 | exact h_.2.1.2.1 | exact h_.2.1.2.2 | exact h_.2.2.1.1 | exact h_.2.2.1.2 | exact h_.2.2.2.1 | exact h_.2.2.2.2) | (first | exact h_ | exact h_.1 | exact h_.2 | exact h_.1.1 | exact h_.1.2 | exact h_.2.1 | exact h_.2.2 | exact h_.1.1.1 | exact h_.1.1.2 | exact h_.1.2.1 | exact h_.1.2.2 | exact h_.2.1.1 | exact h_.2.1.2 | exact h_.2.2.1 | exact h_.2.2.2 | exact h_.1.1.1.1 | exact h_.1.1.1.2 | exact h_.1.1.2.1 | exact h_.1.1.2.2 | exact h_.1.2.1.1 | exact h_.1.2.1.2 | exact h_.1.2.2.1 | exact h_.1.2.2.2 | exact h_.2.1.1.1 | exact h_.2.1.1.2 | exact h_.2.1.2.1 | exact h_.2.1.2.2 | exact h_.2.2.1.1 | exact h_.2.2.1.2 | exact h_.2.2.2.1 | exact h_.2.2.2.2))
                  rw [← Ny191.out] at ho
                  have n0_ := Aside0.mk (Kd.N_afterv (ok := (fun k_ => some k_ ≠ (.slice Ao44 x13_2.length co44 : Value).ownBlock ∧ some k_ ≠ (.slice Ao53 y188.length co53 : Value).ownBlock ∧ some k_ ≠ (v196 : Value).ownBlock)) (by exact Kd.N_mono HO_11.out (fun _ hk => ⟨⟨hk.1.1.2, ⟨hk.1.2, hk.2⟩⟩, hk.1.1.1⟩)) hg hat)
                  have n1_ := Aside0.mk (Kd.R_over' (by exact HO_13.out) (Kd.N_typed (by exact HO_12.out)) (by decide) hg)
                  have n2_ := Aside0.mk (Kd.V_afterv (ok := (fun k_ => some k_ ≠ (.slice (some ad187) t167.length co47 : Value).ownBlock ∧ some k_ ≠ (.slice Ao44 x13_2.length co44 : Value).ownBlock ∧ some k_ ≠ (.slice Ao53 y188.length co53 : Value).ownBlock ∧ some k_ ≠ (v196 : Value).ownBlock)) (by exact Kd.V_mono HL187_0.out (fun _ hk => ⟨⟨hk.1.1.2, ⟨hk.1.1.1.2, ⟨hk.1.2, hk.2⟩⟩⟩, hk.1.1.1.1⟩)) hg hat)
                  have n3_ := Aside0.mk (Kd.N_afterv (ok := (fun k_ => some k_ ≠ (.slice (some ad187) t167.length co47 : Value).ownBlock ∧ some k_ ≠ (.slice Ao44 x13_2.length co44 : Value).ownBlock ∧ some k_ ≠ (v196 : Value).ownBlock)) (by exact Kd.N_mono HO190.out (fun _ hk => ⟨⟨hk.1.1, ⟨hk.1.2.2, hk.2⟩⟩, hk.1.2.1⟩)) hg hat)
                  have n4_ := Aside0.mk (Kd.R_over' (by exact HO197.out) (Kd.N_typed (by exact HO_12.out)) (by decide) hg)
                  have n5_ := Aside0.mk (hb)
                  have n6_ := Aside0.mk (ho)
                  clear HO_11
                  clear HO_13
                  clear HL187_0
                  clear HO190
                  clear HO197
                  clear HB
                  clear HO_12
                  have HO_11 := n0_
                  have HO_13 := n1_
                  have HL187_0 := n2_
                  have HO190 := n3_
                  have HO197 := n4_
                  have HB := n5_
                  have HO193 := n6_
                  clear n0_ n1_ n2_ n3_ n4_ n5_ n6_
                  clear ho hb hg hat
                  refine hK.out _ _ ⟨HS0_, ((HB.out.cell (World.block_lt_of_cell? w _ hw194_0)).trans hw194_0)⟩ (fun hHeld => ?_)
                  clear hK K
                  refine norm_ (a' := ?_) ?_ ?_
                  rotate_left
                  ·show Act.put _ (some 73) _ = _
                   simp only [Act.put, List.setIfInBounds_toArray, List.set_cons_zero, List.set_cons_succ, i64_w, i32_w]
                   rfl
                  exact norm_ (by simp only [putAll, Act.put, List.setIfInBounds_toArray, List.set_cons_zero, List.set_cons_succ]) (hCont (.slice Ao53 y188.length co53, v192, v196) _ ⟨hHeld, (by exact Kd.V_mono HL187_0.out (fun _ hk => ⟨hk.1.2.2.1, ⟨hk.2, ⟨hk.1.2.2.2, ⟨hk.1.1, hk.1.2.1⟩⟩⟩⟩)), (by exact Kd.N_mono HO190.out (fun _ hk => ⟨hk.2, ⟨hk.1.2.2, ⟨hk.1.1, hk.1.2.1⟩⟩⟩)), (by exact Kd.N_mono HO193.out (fun _ hk => ⟨hk.2.2, ⟨hk.1, hk.2.1⟩⟩)), (by exact Kd.R_mono HO197.out (fun _ hk => hk.2)), (by exact Kd.N_mono HO_11.out (fun _ hk => ⟨hk.1.2.1, ⟨hk.2, ⟨hk.1.2.2, hk.1.1⟩⟩⟩)), (by exact Kd.R_mono HO_13.out (fun _ hk => hk.2)), (by repeat (first | exact HB.out | apply below_alloc | apply pw_below_drewN | apply below_drew1))⟩)
                ·skip
                 refine Kd.R_lit_step Kd.string _ 9 ?hg (N := 79) ?hd (xs := ([rdOf ByteArray.empty l1 x45_2] : List ByteArray)) (inner := [.string (rdOf ByteArray.empty l1 x45_2)]) (ok := fun _ => True) (okp := fun _ => True) ?hr ?hp (fun _ hk => hk) trivial (Below.refl _ _) (Nat.le_refl _) (by simp) ?_; (case hd => rfl); (case hg => rfl); (case hr => first | (go_simp; done) | (go_simp; rfl)); (case hp => exact (Reps.one (show Kd.M Kd.string _ _ _ (rdOf ByteArray.empty l1 x45_2) [.string (rdOf ByteArray.empty l1 x45_2)] from rfl) (Reps.none _ _)))
                 intro v196 w48 ho49 hb hg_ hnew_
                 have HS0_ := (hb.cell (World.block_lt_of_cell? _ _ (hHeld.1))).trans (hHeld.1)
                 clear hg_ hnew_
                 (first | rw [← Ny195.out] at ho49 | (simp only [Int.reduceToNat] at ho49; rw [← Ny195.out] at ho49))
                 have n0_ := Aside0.mk (Kd.N_elder' (by exact HO_11.out) (Kd.R_base ho49) hb)
                 have n1_ := Aside0.mk (Kd.N_elder' (by exact HO_12.out) (Kd.R_base ho49) hb)
                 have n2_ := Aside0.mk (Kd.R_elder' (by exact HO_13.out) (Kd.R_base ho49) hb)
                 have n3_ := Aside0.mk (Kd.V_elder' (by exact HL187_0.out) (Kd.R_base ho49) hb)
                 have n4_ := Aside0.mk (Kd.R_lower (Kd.R_new' ho49 (Kd.R_lt (by exact HO_13.out))) (below_size (by repeat (first | exact HB.out | apply below_alloc | apply pw_below_drewN | apply below_drew1))))
                 have n5_ := Aside0.mk (Kd.C_below (by repeat (first | (with_reducible exact HR187_0.out) | (with_reducible refine Kd.C_alloc ?_ _) | (with_reducible refine Kd.C_drewN ?_ _) | (with_reducible refine Kd.C_drew ?_) | exact HR187_0.out)) hb)
                 have n6_ := Aside0.mk (below_step (by repeat (first | exact HB.out | apply below_alloc | apply pw_below_drewN | apply below_drew1)) hb)
                 clear HO_11
                 clear HO_12
                 clear HO_13
                 clear HL187_0
                 clear HR187_0
                 clear HB
                 have HO_11 := n0_
                 have HO_12 := n1_
                 have HO_13 := n2_
                 have HL187_0 := n3_
                 have HO197 := n4_
                 have HR187_0 := n5_
                 have HB := n6_
                 clear n0_ n1_ n2_ n3_ n4_ n5_ n6_
                 clear hb ho49
                 refine hK.out _ _ ⟨HS0_, ((HB.out.cell (World.block_lt_of_cell? w _ hw194_0)).trans hw194_0)⟩ (fun hHeld => ?_)
                 clear hK K
                 refine norm_ (a' := ?_) ?_ ?_
                 rotate_left
                 ·show Act.put _ (some 79) _ = _
                  simp only [Act.put, List.setIfInBounds_toArray, List.set_cons_zero, List.set_cons_succ, i64_w, i32_w]
                  rfl
                 refine one_ (i := 5) (N := some 72) #[true, true, true, true, true, true, false, true, true, true, true, true, true, false, false, false] rfl rfl (one_of HT_.out (by kernel_rfl)) (by decide) (fun K hK => ?_)
                 refine Kd.N_lit_step (Kd.slice 3 (Kd.int .i64)) _ 32 ?hg (N' := 72) ?hd (xs := ([rd_L1 t167 x45_2] : List (List Int))) (inner := [.slice A187_0 (rd_L1 t167 x45_2).length c187_0]) (ok := (fun k_ => some k_ ≠ (.slice (some ad187) t167.length co47 : Value).ownBlock ∧ some k_ ≠ (.slice Ao45 x12_2.length co45 : Value).ownBlock ∧ some k_ ≠ (.slice Ao44 x13_2.length co44 : Value).ownBlock ∧ some k_ ≠ (v196 : Value).ownBlock)) (okp := (fun k_ => some k_ ≠ (.slice (some ad187) t167.length co47 : Value).ownBlock ∧ some k_ ≠ (.slice Ao45 x12_2.length co45 : Value).ownBlock ∧ some k_ ≠ (.slice Ao44 x13_2.length co44 : Value).ownBlock ∧ some k_ ≠ (v196 : Value).ownBlock)) ?hr ?hp (fun _ hk => hk) ((show ∀ k_, w48.heap.size ≤ k_ → (fun k_ => some k_ ≠ (.slice (some ad187) t167.length co47 : Value).ownBlock ∧ some k_ ≠ (.slice Ao45 x12_2.length co45 : Value).ownBlock ∧ some k_ ≠ (.slice Ao44 x13_2.length co44 : Value).ownBlock ∧ some k_ ≠ (v196 : Value).ownBlock) k_ from fun k_ hk => ⟨Kd.fresh' (Kd.N_lt (by exact HO_11.out)) k_ hk, Kd.fresh' (Kd.N_lt (by exact HO_12.out)) k_ hk, Kd.fresh' (Kd.R_lt (by exact HO_13.out)) k_ hk, Kd.fresh' (Kd.R_lt (by exact HO197.out)) k_ hk⟩) _ (Nat.le_refl _)) (Below.refl _ _) (Nat.le_refl _) (by simp) ?_; (case hd => rfl); (case hg => rfl); (case hr => first | (go_simp; done) | (go_simp; rfl)); (case hp => exact (Reps.one (show Kd.FK (Kd.slice 3 (Kd.int .i64)) _ _ (rd_L1 t167 x45_2) [.slice A187_0 (rd_L1 t167 x45_2).length c187_0] from (Kd.FK_slice_mk (Kd.V_reads' (Kd.V_mono (ok' := (fun k_ => some k_ ≠ (.slice (some ad187) t167.length co47 : Value).ownBlock ∧ some k_ ≠ (.slice Ao45 x12_2.length co45 : Value).ownBlock ∧ some k_ ≠ (.slice Ao44 x13_2.length co44 : Value).ownBlock ∧ some k_ ≠ (v196 : Value).ownBlock)) (HL187_0.out) (fun k_ hk => ⟨hk.1.2, ⟨hk.1.1.1, ⟨hk.1.1.2, hk.2⟩⟩⟩))).2.1 (Kd.V_F (Kd.V_mono (ok' := (fun k_ => some k_ ≠ (.slice (some ad187) t167.length co47 : Value).ownBlock ∧ some k_ ≠ (.slice Ao45 x12_2.length co45 : Value).ownBlock ∧ some k_ ≠ (.slice Ao44 x13_2.length co44 : Value).ownBlock ∧ some k_ ≠ (v196 : Value).ownBlock)) (HL187_0.out) (fun k_ hk => ⟨hk.1.2, ⟨hk.1.1.1, ⟨hk.1.1.2, hk.2⟩⟩⟩))))) (Reps.none _ _)))
                 intro v189 w50 ho51 hb hg_ hnew_
                 have HS0_ := (hb.cell (World.block_lt_of_cell? _ _ (hHeld.1))).trans (hHeld.1)
                 clear hg_ hnew_
                 (first | rw [← Ny188.out] at ho51 | (simp only [Int.reduceToNat] at ho51; rw [← Ny188.out] at ho51))
                 have n0_ := Aside0.mk (Kd.N_elder' (by exact HO_11.out) (Kd.N_base ho51) hb)
                 have n1_ := Aside0.mk (Kd.N_elder' (by exact HO_12.out) (Kd.N_base ho51) hb)
                 have n2_ := Aside0.mk (Kd.R_below (by exact HO_13.out) hb)
                 have n3_ := Aside0.mk (Kd.V_elder' (by exact HL187_0.out) (Kd.N_base ho51) hb)
                 have n4_ := Aside0.mk (Kd.R_below (by exact HO197.out) hb)
                 have n5_ := Aside0.mk (Kd.N_lower ho51 (below_size (by repeat (first | exact HB.out | apply below_alloc | apply pw_below_drewN | apply below_drew1))))
                 have n6_ := Aside0.mk (Kd.C_below (by repeat (first | (with_reducible exact HR187_0.out) | (with_reducible refine Kd.C_alloc ?_ _) | (with_reducible refine Kd.C_drewN ?_ _) | (with_reducible refine Kd.C_drew ?_) | exact HR187_0.out)) hb)
                 have n7_ := Aside0.mk (below_step (by repeat (first | exact HB.out | apply below_alloc | apply pw_below_drewN | apply below_drew1)) hb)
                 clear HO_11
                 clear HO_12
                 clear HO_13
                 clear HL187_0
                 clear HO197
                 clear HR187_0
                 clear HB
                 have HO_11 := n0_
                 have HO_12 := n1_
                 have HO_13 := n2_
                 have HL187_0 := n3_
                 have HO197 := n4_
                 have HO190 := n5_
                 have HR187_0 := n6_
                 have HB := n7_
                 clear n0_ n1_ n2_ n3_ n4_ n5_ n6_ n7_
                 clear hb ho51
                 obtain ⟨Ao53, co53, eo53⟩ := Kd.N_slice HO190.out
                 (first | subst eo53 | (injection eo53 with f1_ f2_ f3_; have f4_ := f1_.symm; have f5_ := f3_.symm; clear f1_ f2_ f3_; subst f4_; subst f5_))
                 refine hK.out _ _ ⟨HS0_, ((HB.out.cell (World.block_lt_of_cell? w _ hw194_0)).trans hw194_0)⟩ (fun hHeld => ?_)
                 clear hK K
                 refine norm_ (a' := ?_) ?_ ?_
                 rotate_left
                 ·show Act.put _ (some 72) _ = _
                  simp only [Act.put, List.setIfInBounds_toArray, List.set_cons_zero, List.set_cons_succ, i64_w, i32_w]
                  rfl
                 refine one_ (i := 6) (N := some 73) #[true, true, true, true, true, true, true, true, true, true, true, true, true, false, false, false] rfl rfl (one_of HT_.out (by kernel_rfl)) (by decide) (fun K hK => ?_)
                 refine Kd.N_append_rows_step (Kd.slice 3 (Kd.int .i64)) (w0 := w) w.heap.size (by rfl) (.tmp 67) (.tmp 72) 49 32 (.slice none 0 0) 24 rfl Try.underlying49 info32 rfl (by decide) (by omega) (.slice Ao45 x12_2.length co45) x12_2 y188 _ _ _ (fun k_ => some k_ ≠ (.slice (some ad187) t167.length co47 : Value).ownBlock ∧ some k_ ≠ (.slice Ao44 x13_2.length co44 : Value).ownBlock ∧ some k_ ≠ (v196 : Value).ownBlock) (fun k_ => ((fun k_ => some k_ ≠ (.slice (some ad187) t167.length co47 : Value).ownBlock ∧ some k_ ≠ (.slice Ao44 x13_2.length co44 : Value).ownBlock ∧ some k_ ≠ (v196 : Value).ownBlock)) k_ ∧ some k_ ≠ (.slice Ao45 x12_2.length co45 : Value).ownBlock) rfl rfl ?aO ?aR (fun _ hk => hk) ?aF ?aB ?aS ?aL ?_
                 (case aR => exact (by skip; exact Kd.N_F (Kd.N_mono (ok' := (fun k_ => ((fun k_ => some k_ ≠ (.slice (some ad187) t167.length co47 : Value).ownBlock ∧ some k_ ≠ (.slice Ao44 x13_2.length co44 : Value).ownBlock ∧ some k_ ≠ (v196 : Value).ownBlock)) k_ ∧ some k_ ≠ (.slice Ao45 x12_2.length co45 : Value).ownBlock)) (HO190.out) (fun k_ hk => ⟨⟨hk.1, ⟨hk.2.2.1, hk.2.2.2⟩⟩, hk.2.1⟩))))
                 (case aB => exact (by repeat (first | exact HB.out | apply below_alloc | apply pw_below_drewN | apply below_drew1)))
                 (case aF => exact (fun k_ hk => ⟨Kd.fresh' (Kd.N_lt (by exact HO_11.out)) k_ hk, Kd.fresh' (Kd.R_lt (by exact HO_13.out)) k_ hk, Kd.fresh' (Kd.R_lt (by exact HO197.out)) k_ hk⟩))
                 (case aO => exact (by exact Kd.N_mono HO_12.out (fun _ hk => ⟨hk.1.1.1, ⟨hk.1.1.2, hk.1.2⟩⟩)))
                 (case aS => exact (below_size (by repeat (first | exact HB.out | apply below_alloc | apply pw_below_drewN | apply below_drew1))))
                 (case aL => have := LMc40.out; omega)
                 intro v192 w52 ho hb hg hat
                 have HS0_ := cell_grown hg (hHeld.1) (by have h_ := HO_11.out.1 _ rfl; first | (rw [add_block]; first | exact h_ | exact h_.1 | exact h_.2 | exact h_.1.1 | exact h_.1.2 | exact h_.2.1 | exact h_.2.2 | exact h_.1.1.1 | exact h_.1.1.2 | exact h_.1.2.1 | exact h_.1.2.2 | exact h_.2.1.1 | exact h_.2.1.2 | exact h_.2.2.1 | exact h_.2.2.2 | exact h_.1.1.1.1 | exact h_.1.1.1.2 | exact h_.1.1.2.1 | exact h_.1.1.2.2 | exact h_.1.2.1.1 | exact h_.1.2.1.2 | exact h_.1.2.2.1 | exact h_.1.2.2.2 | exact h_.2.1.1.1 | exact h_.2.1.1.2 | exact h_.2.1.2.1 | exact h_.2.1.2.2 | exact h_.2.2.1.1 | exact h_.2.2.1.2 | exact h_.2.2.2.1 | exact h_.2.2.2.2) | (show some (Addr.add _ _).block ≠ _; rw [add_block]; first | exact h_ | exact h_.1 | exact h_.2 | exact h_.1.1 | exact h_.1.2 | exact h_.2.1 | exact h_.2.2 | exact h_.1.1.1 | exact h_.1.1.2 | exact h_.1.2.1 | exact h_.1.2.2 | exact h_.2.1.1 | exact h_.2.1.2 | exact h_.2.2.1 | exact h_.2.2.2 | exact h_.1.1.1.1 | exact h_.1.1.1.2 | exact h_.1.1.2.1 | exact h_.1.1.2.2 | exact h_.1.2.1.1 | exact h_.1.2.1.2 | exact h_.1.2.2.1 | exact h_.1.2.2.2 | exact h_.2.1.1.1 | exact h_.2.1.1.2 | exact h_.2.1.2.1 | exact h_.2.1.2.2 | exact h_.2.2.1.1 | exact h_.2.2.1.2 | exact h_.2.2.2.1 | exact h_.2.2.2.2) | (first | exact h_ | exact h_.1 | exact h_.2 | exact h_.1.1 | exact h_.1.2 | exact h_.2.1 | exact h_.2.2 | exact h_.1.1.1 | exact h_.1.1.2 | exact h_.1.2.1 | exact h_.1.2.2 | exact h_.2.1.1 | exact h_.2.1.2 | exact h_.2.2.1 | exact h_.2.2.2 | exact h_.1.1.1.1 | exact h_.1.1.1.2 | exact h_.1.1.2.1 | exact h_.1.1.2.2 | exact h_.1.2.1.1 | exact h_.1.2.1.2 | exact h_.1.2.2.1 | exact h_.1.2.2.2 | exact h_.2.1.1.1 | exact h_.2.1.1.2 | exact h_.2.1.2.1 | exact h_.2.1.2.2 | exact h_.2.2.1.1 | exact h_.2.2.1.2 | exact h_.2.2.2.1 | exact h_.2.2.2.2))
                 rw [← Ny191.out] at ho
                 have n0_ := Aside0.mk (Kd.N_afterv (ok := (fun k_ => some k_ ≠ (.slice Ao44 x13_2.length co44 : Value).ownBlock ∧ some k_ ≠ (v196 : Value).ownBlock ∧ some k_ ≠ (.slice Ao53 y188.length co53 : Value).ownBlock)) (by exact Kd.N_mono HO_11.out (fun _ hk => ⟨⟨hk.1.1.2, ⟨hk.1.2, hk.2⟩⟩, hk.1.1.1⟩)) hg hat)
                 have n1_ := Aside0.mk (Kd.R_over' (by exact HO_13.out) (Kd.N_typed (by exact HO_12.out)) (by decide) hg)
                 have n2_ := Aside0.mk (Kd.V_afterv (ok := (fun k_ => some k_ ≠ (.slice (some ad187) t167.length co47 : Value).ownBlock ∧ some k_ ≠ (.slice Ao44 x13_2.length co44 : Value).ownBlock ∧ some k_ ≠ (v196 : Value).ownBlock ∧ some k_ ≠ (.slice Ao53 y188.length co53 : Value).ownBlock)) (by exact Kd.V_mono HL187_0.out (fun _ hk => ⟨⟨hk.1.1.2, ⟨hk.1.1.1.2, ⟨hk.1.2, hk.2⟩⟩⟩, hk.1.1.1.1⟩)) hg hat)
                 have n3_ := Aside0.mk (Kd.R_over' (by exact HO197.out) (Kd.N_typed (by exact HO_12.out)) (by decide) hg)
                 have n4_ := Aside0.mk (Kd.N_afterv (ok := (fun k_ => some k_ ≠ (.slice (some ad187) t167.length co47 : Value).ownBlock ∧ some k_ ≠ (.slice Ao44 x13_2.length co44 : Value).ownBlock ∧ some k_ ≠ (v196 : Value).ownBlock)) (by exact Kd.N_mono HO190.out (fun _ hk => ⟨⟨hk.1, ⟨hk.2.2.1, hk.2.2.2⟩⟩, hk.2.1⟩)) hg hat)
                 have n5_ := Aside0.mk (hb)
                 have n6_ := Aside0.mk (ho)
                 clear HO_11
                 clear HO_13
                 clear HL187_0
                 clear HO197
                 clear HO190
                 clear HB
                 clear HO_12
                 have HO_11 := n0_
                 have HO_13 := n1_
                 have HL187_0 := n2_
                 have HO197 := n3_
                 have HO190 := n4_
                 have HB := n5_
                 have HO193 := n6_
                 clear n0_ n1_ n2_ n3_ n4_ n5_ n6_
                 clear ho hb hg hat
                 refine hK.out _ _ ⟨HS0_, ((HB.out.cell (World.block_lt_of_cell? w _ hw194_0)).trans hw194_0)⟩ (fun hHeld => ?_)
                 clear hK K
                 refine norm_ (a' := ?_) ?_ ?_
                 rotate_left
                 ·show Act.put _ (some 73) _ = _
                  simp only [Act.put, List.setIfInBounds_toArray, List.set_cons_zero, List.set_cons_succ, i64_w, i32_w]
                  rfl
                 exact norm_ (by simp only [putAll, Act.put, List.setIfInBounds_toArray, List.set_cons_zero, List.set_cons_succ]) (hCont (.slice Ao53 y188.length co53, v192, v196) _ ⟨hHeld, (by exact Kd.V_mono HL187_0.out (fun _ hk => ⟨hk.1.2.2.2, ⟨hk.2, ⟨hk.1.2.2.1, ⟨hk.1.1, hk.1.2.1⟩⟩⟩⟩)), (by exact Kd.N_mono HO190.out (fun _ hk => ⟨hk.2, ⟨hk.1.2.2, ⟨hk.1.1, hk.1.2.1⟩⟩⟩)), (by exact Kd.N_mono HO193.out (fun _ hk => ⟨hk.2.2, ⟨hk.1, hk.2.1⟩⟩)), (by exact Kd.R_mono HO197.out (fun _ hk => hk.2)), (by exact Kd.N_mono HO_11.out (fun _ hk => ⟨hk.1.2.2, ⟨hk.2, ⟨hk.1.2.1, hk.1.1⟩⟩⟩)), (by exact Kd.R_mono HO_13.out (fun _ hk => hk.2)), (by repeat (first | exact HB.out | apply below_alloc | apply pw_below_drewN | apply below_drew1))⟩)
               rintro ⟨v189, v192, v196⟩ w54 ⟨hS_, h0_, h1_, h2_, h3_, h4_, h5_, h6_⟩
               have n0_ : Aside0 (Kd.V (Kd.int .i64) 3 w54 w.heap.size (fun k_ => some k_ ≠ (v189 : Value).ownBlock ∧ some k_ ≠ (v192 : Value).ownBlock ∧ some k_ ≠ (v196 : Value).ownBlock ∧ some k_ ≠ (.slice (some ad187) t167.length co47 : Value).ownBlock ∧ some k_ ≠ (.slice Ao44 x13_2.length co44 : Value).ownBlock) (.slice A187_0 (rd_L1 t167 x45_2).length c187_0) (rd_L1 t167 x45_2)) := ⟨h0_⟩
               have n1_ : Aside0 (Kd.N (Kd.slice 3 (Kd.int .i64)) 32 w54 w.heap.size (fun k_ => some k_ ≠ (v192 : Value).ownBlock ∧ some k_ ≠ (v196 : Value).ownBlock ∧ some k_ ≠ (.slice (some ad187) t167.length co47 : Value).ownBlock ∧ some k_ ≠ (.slice Ao44 x13_2.length co44 : Value).ownBlock) v189 y188) := ⟨h1_⟩
               have n2_ : Aside0 (Kd.N (Kd.slice 3 (Kd.int .i64)) 32 w54 w.heap.size (fun k_ => some k_ ≠ (v196 : Value).ownBlock ∧ some k_ ≠ (.slice (some ad187) t167.length co47 : Value).ownBlock ∧ some k_ ≠ (.slice Ao44 x13_2.length co44 : Value).ownBlock) v192 y191) := ⟨h2_⟩
               have n3_ : Aside0 (Kd.R Kd.string 9 w54 w.heap.size (fun k_ => some k_ ≠ (.slice Ao44 x13_2.length co44 : Value).ownBlock) v196 y195) := ⟨h3_⟩
               have n4_ : Aside0 (Kd.N (Kd.slice 3 (Kd.int .i64)) 32 w54 w.heap.size (fun k_ => some k_ ≠ (v189 : Value).ownBlock ∧ some k_ ≠ (v192 : Value).ownBlock ∧ some k_ ≠ (v196 : Value).ownBlock ∧ some k_ ≠ (.slice Ao44 x13_2.length co44 : Value).ownBlock) (.slice (some ad187) t167.length co47) t167) := ⟨h4_⟩
               have n5_ : Aside0 (Kd.R Kd.string 9 w54 w.heap.size (fun k_ => some k_ ≠ (v196 : Value).ownBlock) (.slice Ao44 x13_2.length co44) x13_2) := ⟨h5_⟩
               have n6_ : Aside0 (Below w.heap.size w w54) := ⟨h6_⟩
               clear HO_11
               clear HO_12
               clear HO_13
               clear HB
               clear h0_ h1_ h2_ h3_ h4_ h5_ h6_
               have HL187_0 := n0_
               have HO190 := n1_
               have HO193 := n2_
               have HO197 := n3_
               have HO_11 := n4_
               have HO_13 := n5_
               have HB := n6_
               clear n0_ n1_ n2_ n3_ n4_ n5_ n6_
               have hHeld : w54.cell? (ad187.add (x45_2).toNat) = some (.slice A187_0 (rd_L1 t167 x45_2).length c187_0) ∧ w54.cell? (ad194.add (x45_2).toNat) = some (.string (rdOf ByteArray.empty l1 x45_2)) := hS_
               obtain ⟨Ao56, co56, eo56⟩ := Kd.R_slice HO197.out
               (first | subst eo56 | (injection eo56 with f1_ f2_ f3_; have f4_ := f1_.symm; have f5_ := f3_.symm; clear f1_ f2_ f3_; subst f4_; subst f5_))
               refine norm_ (a' := ?_) ?_ ?_
               rotate_left
               ·simp only [putAll, Act.put, List.setIfInBounds_toArray, List.set_cons_zero, List.set_cons_succ]
                rfl
               refine one_ (i := 13) (N := some 80) #[true, true, true, true, true, true, true, true, true, true, true, true, true, true, false, false] rfl rfl (one_of HT_.out (by kernel_rfl)) (by decide) (fun K hK => ?_)
               refine Kd.R_append_rows_step Kd.string (w0 := w) w.heap.size (by rfl) (.tmp 74) (.tmp 79) 24 9 (.string ⟨#[]⟩) 16 rfl Try.underlying24 info9 rfl (by decide) (by omega) (.slice Ao44 x13_2.length co44) x13_2 y195 _ _ _ (fun k_ => some k_ ≠ (.slice Ao56 y195.length co56 : Value).ownBlock) (fun _ => False) rfl rfl ?aO ?aR (fun _ _ h => h) (fun _ h => h.elim) ?aF ?aB ?aS ?aL ?_
               (case aR => repeat (first | exact (Kd.R_reads' HO197.out).2.2 | (with_reducible refine Kd.C_alloc ?_ _) | (with_reducible refine Kd.C_drewN ?_ _) | (with_reducible refine Kd.C_drew ?_)))
               (case aB => exact (by repeat (first | exact HB.out | apply below_alloc | apply pw_below_drewN | apply below_drew1)))
               (case aF => exact (fun k_ hk => Kd.fresh' (Kd.R_lt (by exact HO197.out)) k_ hk))
               (case aO => exact (by exact HO_13.out))
               (case aS => exact (below_size (by repeat (first | exact HB.out | apply below_alloc | apply pw_below_drewN | apply below_drew1))))
               (case aL => have := LMc42.out; omega)
               intro v199 w55 ho hb hg hat
               have HS0_ := cell_grown hg (hHeld.1) (by have h_ := HO_11.out.1 _ rfl; first | (rw [add_block]; first | exact h_ | exact h_.1 | exact h_.2 | exact h_.1.1 | exact h_.1.2 | exact h_.2.1 | exact h_.2.2 | exact h_.1.1.1 | exact h_.1.1.2 | exact h_.1.2.1 | exact h_.1.2.2 | exact h_.2.1.1 | exact h_.2.1.2 | exact h_.2.2.1 | exact h_.2.2.2 | exact h_.1.1.1.1 | exact h_.1.1.1.2 | exact h_.1.1.2.1 | exact h_.1.1.2.2 | exact h_.1.2.1.1 | exact h_.1.2.1.2 | exact h_.1.2.2.1 | exact h_.1.2.2.2 | exact h_.2.1.1.1 | exact h_.2.1.1.2 | exact h_.2.1.2.1 | exact h_.2.1.2.2 | exact h_.2.2.1.1 | exact h_.2.2.1.2 | exact h_.2.2.2.1 | exact h_.2.2.2.2) | (show some (Addr.add _ _).block ≠ _; rw [add_block]; first | exact h_ | exact h_.1 | exact h_.2 | exact h_.1.1 | exact h_.1.2 | exact h_.2.1 | exact h_.2.2 | exact h_.1.1.1 | exact h_.1.1.2 | exact h_.1.2.1 | exact h_.1.2.2 | exact h_.2.1.1 | exact h_.2.1.2 | exact h_.2.2.1 | exact h_.2.2.2 | exact h_.1.1.1.1 | exact h_.1.1.1.2 | exact h_.1.1.2.1 | exact h_.1.1.2.2 | exact h_.1.2.1.1 | exact h_.1.2.1.2 | exact h_.1.2.2.1 | exact h_.1.2.2.2 | exact h_.2.1.1.1 | exact h_.2.1.1.2 | exact h_.2.1.2.1 | exact h_.2.1.2.2 | exact h_.2.2.1.1 | exact h_.2.2.1.2 | exact h_.2.2.2.1 | exact h_.2.2.2.2) | (first | exact h_ | exact h_.1 | exact h_.2 | exact h_.1.1 | exact h_.1.2 | exact h_.2.1 | exact h_.2.2 | exact h_.1.1.1 | exact h_.1.1.2 | exact h_.1.2.1 | exact h_.1.2.2 | exact h_.2.1.1 | exact h_.2.1.2 | exact h_.2.2.1 | exact h_.2.2.2 | exact h_.1.1.1.1 | exact h_.1.1.1.2 | exact h_.1.1.2.1 | exact h_.1.1.2.2 | exact h_.1.2.1.1 | exact h_.1.2.1.2 | exact h_.1.2.2.1 | exact h_.1.2.2.2 | exact h_.2.1.1.1 | exact h_.2.1.1.2 | exact h_.2.1.2.1 | exact h_.2.1.2.2 | exact h_.2.2.1.1 | exact h_.2.2.1.2 | exact h_.2.2.2.1 | exact h_.2.2.2.2))
               rw [← Ny198.out] at ho
               have n0_ := Aside0.mk (Kd.N_afterv (ok := (fun k_ => some k_ ≠ (v189 : Value).ownBlock ∧ some k_ ≠ (v192 : Value).ownBlock ∧ some k_ ≠ (.slice Ao56 y195.length co56 : Value).ownBlock)) (by exact Kd.N_mono HO_11.out (fun _ hk => ⟨⟨hk.1, ⟨hk.2.1, hk.2.2.1⟩⟩, hk.2.2.2⟩)) hg hat)
               have n1_ := Aside0.mk (Kd.V_afterv (ok := (fun k_ => some k_ ≠ (.slice (some ad187) t167.length co47 : Value).ownBlock ∧ some k_ ≠ (v189 : Value).ownBlock ∧ some k_ ≠ (v192 : Value).ownBlock ∧ some k_ ≠ (.slice Ao56 y195.length co56 : Value).ownBlock)) (by exact Kd.V_mono HL187_0.out (fun _ hk => ⟨⟨hk.2.2.2.1, ⟨hk.1, ⟨hk.2.1, hk.2.2.1⟩⟩⟩, hk.2.2.2.2⟩)) hg hat)
               have n2_ := Aside0.mk (Kd.N_afterv (ok := (fun k_ => some k_ ≠ (.slice (some ad187) t167.length co47 : Value).ownBlock ∧ some k_ ≠ (v192 : Value).ownBlock ∧ some k_ ≠ (.slice Ao56 y195.length co56 : Value).ownBlock)) (by exact Kd.N_mono HO190.out (fun _ hk => ⟨⟨hk.2.2.1, ⟨hk.1, hk.2.1⟩⟩, hk.2.2.2⟩)) hg hat)
               have n3_ := Aside0.mk (Kd.N_afterv (ok := (fun k_ => some k_ ≠ (.slice (some ad187) t167.length co47 : Value).ownBlock ∧ some k_ ≠ (.slice Ao56 y195.length co56 : Value).ownBlock)) (by exact Kd.N_mono HO193.out (fun _ hk => ⟨⟨hk.2.1, hk.1⟩, hk.2.2⟩)) hg hat)
               have n4_ := Aside0.mk (Kd.R_after (ok := (fun _ => True)) (by exact Kd.R_mono HO197.out (fun _ hk => ⟨trivial, hk⟩)) hg hat)
               have n5_ := Aside0.mk (hb)
               have n6_ := Aside0.mk (ho)
               clear HO_11
               clear HL187_0
               clear HO190
               clear HO193
               clear HO197
               clear HB
               clear HO_13
               have HO_11 := n0_
               have HL187_0 := n1_
               have HO190 := n2_
               have HO193 := n3_
               have HO197 := n4_
               have HB := n5_
               have HO200 := n6_
               clear n0_ n1_ n2_ n3_ n4_ n5_ n6_
               clear ho hb hg hat
               refine hK.out _ _ ⟨HS0_, ((HB.out.cell (World.block_lt_of_cell? w _ hw194_0)).trans hw194_0)⟩ (fun hHeld => ?_)
               clear hK K
               refine norm_ (a' := ?_) ?_ ?_
               rotate_left
               ·show Act.put _ (some 80) _ = _
                simp only [Act.put, List.setIfInBounds_toArray, List.set_cons_zero, List.set_cons_succ, i64_w, i32_w]
                rfl
               refine pure_ (i := 14) (N := some 12) (v := ?_) (a' := ?_) #[true, true, true, true, true, true, true, true, true, true, true, true, true, true, true, false] rfl rfl (any_of HT_.out (by kernel_rfl)) (fun _ _ _ h => h) (Or.inl ⟨by rfl, ?_⟩) ?_ ?_
               rotate_left
               ·intro w'
                go_simp
                with_reducible rfl
               rotate_left
               ·simp only [Act.put, List.setIfInBounds_toArray, List.set_cons_zero, List.set_cons_succ, i64_w, i32_w]
                rfl
               refine pure_ (i := 15) (N := some 13) (v := ?_) (a' := ?_) #[true, true, true, true, true, true, true, true, true, true, true, true, true, true, true, true] rfl rfl (any_of HT_.out (by kernel_rfl)) (fun _ _ _ h => h) (Or.inl ⟨by rfl, ?_⟩) ?_ ?_
               rotate_left
               ·intro w'
                go_simp
                with_reducible rfl
               rotate_left
               ·simp only [Act.put, List.setIfInBounds_toArray, List.set_cons_zero, List.set_cons_succ, i64_w, i32_w]
                rfl
               refine done_ (done_of HT_.out (by kernel_rfl)) ?_
               try go_wp2
               go_roundg k2
               case measure => have := HJ4.out; have := HK2.out; omega
               case rel => exact ⟨(y191), (y198), (wrap64 (x45_2 + 1)), (by first | rfl | (simp; done) | (simp [*]; done)), H', ⟨by have := HJ4.out; have := HK2.out; omega⟩, ⟨by exact Kd.N_mono HO_11.out (fun _ hk => ⟨hk.1.2.1, hk.2⟩)⟩, ⟨by exact Kd.N_mono HO193.out (fun _ hk => ⟨hk.1.1, hk.2⟩)⟩, ⟨by exact Kd.R_mono HO200.out (fun _ hk => trivial)⟩, ⟨by repeat (first | exact HB.out | apply below_alloc | apply pw_below_drewN | apply below_drew1)⟩⟩
              ·rw [if_neg c42] at H
               exact absurd H (by simp)
             ·rw [if_neg c41] at H
              exact absurd H (by simp)
            ·rw [if_neg c40] at H
             exact absurd H (by simp)
           ·rw [if_neg c39] at H
            exact absurd H (by simp)
         ·replace c15 := Bool.eq_false_iff.mpr c15
          subst c15
          have H1 : (impl_Decode.l0 k2 l1 t164 t167 x12_2 x13_2 l2 (l2.length : Int) (wrap64 (x45_2 + 1))) = some (r1, r2) := by rw [if_neg (show ¬ (false = true) by decide)] at H; exact H
          clear H
          have H := H1
          clear H1
          have H' := Aside0.mk H
          clear H
          have p170 : 0 ≤ (x45_2 : Int) := of_decide_eq_true (by assumption)
          have q170 : x45_2 < (l2.length : Int) := of_decide_eq_true (by assumption)
          obtain ⟨ad170, e170, hx170_0⟩ := Kd.at_bool HR2.out x45_2 p170 q170
          (try rw [← Nbq14.out] at hx170_0)
          cases e170
          replace hx170_0 := (HB.out.cell (World.block_lt_of_cell? w _ hx170_0)).trans hx170_0
          replace p170 := eq_true p170
          replace q170 := eq_true q170
          go_wp2
          go_roundg k2
          case measure => have := HJ4.out; have := HK2.out; omega
          case rel => exact ⟨(x12_2), (x13_2), (wrap64 (x45_2 + 1)), (by first | rfl | (simp; done) | (simp [*]; done)), H', ⟨by have := HJ4.out; have := HK2.out; omega⟩, ⟨by exact HO_11.out⟩, ⟨by exact HO_12.out⟩, ⟨by exact HO_13.out⟩, ⟨by repeat (first | exact HB.out | apply below_alloc | apply pw_below_drewN | apply below_drew1)⟩⟩
        ·rw [if_neg c13] at H
         exact absurd H (by simp)
       ·rw [if_neg c12] at H
        exact absurd H (by simp)
      ·rw [if_neg c11] at H
       have c11b0 : decide (x45_2 < (l2.length : Int)) = false := decide_eq_false c11
       clear c11
       by_cases c57 : (x13_2.length : Int) < t164
       ·rw [if_pos c57] at H
        have c57b0 : decide ((x13_2.length : Int) < t164) = true := decide_eq_true c57
        clear c57
        simp only [Option.some.injEq, Prod.mk.injEq] at H
        obtain ⟨rfl, rfl⟩ := H
        obtain ⟨Ao58, co58, eo58⟩ := Kd.R_slice HO_13.out
        subst eo58
        go_wp2
        go_ret2
        exact ⟨_, by first | rfl | (simp [errW_none, errW_some] <;> rfl) | (simp [*, errW_none, errW_some] <;> rfl), by first | exact Kd.R_nil _ _ _ _ _ | exact Kd.N_nil _ _ _ _ _ | exact Kd.V_nil _ _ _ _ _ | exact Kd.Q_nil _ _ _ _ _ | exact Kd.S_nil _ _ _ _ _, by repeat (first | exact HB.out | apply below_alloc | apply pw_below_drewN | apply below_drew1)⟩
       ·rw [if_neg c57] at H
        have c57b0 : decide ((x13_2.length : Int) < t164) = false := decide_eq_false c57
        clear c57
        by_cases c59 : 0 ≤ t164
        ·rw [if_pos c59] at H
         have c59b0 := eq_true c59
         have c59b1 : decide (0 ≤ t164) = true := decide_eq_true c59
         clear c59
         by_cases c60 : t164 ≤ (x12_2.length : Int)
         ·rw [if_pos c60] at H
          have c60b0 := eq_true c60
          have c60b1 : decide (t164 ≤ (x12_2.length : Int)) = true := decide_eq_true c60
          clear c60
          obtain ⟨y201, hy201⟩ : ∃ y_ : List (List Int), y_ = (x12_2.take (t164 : Int).toNat) := ⟨_, rfl⟩
          replace H : ((impl_InvM.f y201).bind fun bt206 => (if bt206.2 = true then (if t164 ≤ (x13_2.length : Int) then ((impl_ApplyM.f k2 bt206.1 (x13_2.take (t164 : Int).toNat)).bind fun t215 => (some (t215, true))) else (none)) else (some (([] : List ByteArray), false)))) = some (r1, r2) := by first | (rw [hy201]; with_reducible exact H) | (have H2_ := (Option.bind_some _ _).symm.trans H; rw [hy201]; with_reducible exact H2_) | (have H2_ := (Option.bind_some _ _).symm.trans H; with_reducible exact H2_) | with_reducible exact H | (rw [hy201]; exact H) | exact H
          have Ny201 := Aside0.mk hy201
          clear hy201
          replace H := Option.bind_eq_some_iff.mp H
          obtain ⟨⟨t206, t207⟩, A610, H⟩ := H
          replace H : (if t207 = true then (if t164 ≤ (x13_2.length : Int) then ((impl_ApplyM.f k2 t206 (x13_2.take (t164 : Int).toNat)).bind fun t215 => (some (t215, true))) else (none)) else (some (([] : List ByteArray), false))) = some (r1, r2) := H
          have A61 := Aside0.mk A610
          clear A610
          by_cases c62 : t207 = true
          ·subst c62
           have H1 : (if t164 ≤ (x13_2.length : Int) then ((impl_ApplyM.f k2 t206 (x13_2.take (t164 : Int).toNat)).bind fun t215 => (some (t215, true))) else (none)) = some (r1, r2) := by rw [if_pos rfl] at H; exact H
           clear H
           have H := H1
           clear H1
           have c63b0 := eq_true (of_decide_eq_true (by assumption) : 0 ≤ t164)
           by_cases c64 : t164 ≤ (x13_2.length : Int)
           ·rw [if_pos c64] at H
            have c64b0 := eq_true c64
            have c64b1 : decide (t164 ≤ (x13_2.length : Int)) = true := decide_eq_true c64
            clear c64
            obtain ⟨y210, hy210⟩ : ∃ y_ : List ByteArray, y_ = (x13_2.take (t164 : Int).toNat) := ⟨_, rfl⟩
            replace H : ((impl_ApplyM.f k2 t206 y210).bind fun t215 => (some (t215, true))) = some (r1, r2) := by first | (rw [hy210]; with_reducible exact H) | (have H2_ := (Option.bind_some _ _).symm.trans H; rw [hy210]; with_reducible exact H2_) | (have H2_ := (Option.bind_some _ _).symm.trans H; with_reducible exact H2_) | with_reducible exact H | (rw [hy210]; exact H) | exact H
            have Ny210 := Aside0.mk hy210
            clear hy210
            replace H := Option.bind_eq_some_iff.mp H
            obtain ⟨t215, A650, H⟩ := H
            replace H : (some (t215, true)) = some (r1, r2) := H
            have A65 := Aside0.mk A650
            clear A650
            simp only [Option.some.injEq, Prod.mk.injEq] at H
            obtain ⟨rfl, rfl⟩ := H
            obtain ⟨Ao66, co66, eo66⟩ := Kd.R_slice HO_13.out
            subst eo66
            obtain ⟨Ao68, co68, eo68⟩ := Kd.N_slice HO_12.out
            subst eo68
            have q67 : (t164 : Int) ≤ ((x12_2.length : Int) : Int) := of_decide_eq_true (by assumption)
            obtain ⟨i067, hi067, _, hsz67, _⟩ := info_parts info32
            have hroom67 : x12_2.length ≤ co68 := (Kd.N_reads' HO_12.out).2.1
            have hC67 : Kd.F (Kd.slice 3 (Kd.int .i64)) _ _ Ao68 x12_2.length x12_2 := (Kd.V_at (base := w.heap.size) (Kd.N_V HO_12.out)).2.2
            have hcut67 := cut_to (P := Try.prog) 49 32 .i64 Try.underlying49 hi067 Ao68 x12_2.length co68 t164 (of_decide_eq_true (by assumption)) q67 hroom67
            have hr67 := Kd.F_take (m := (t164 : Int).toNat) hC67 (by omega)
            have hy67 : y201.length = (t164 : Int).toNat := (by rw [Ny201.out, List.length_take]; omega)
            rw [← Ny201.out] at hr67
            rw [← hy67] at hcut67
            have HO205 := Aside0.mk (show Kd.V (Kd.slice 3 (Kd.int .i64)) 32 _ w.heap.size _ (.slice Ao68 y201.length co68) y201 from Kd.V_mk (by omega) hr67)
            have HC205 := Aside0.mk (show y201.length ≤ co68 from by omega)
            clear hr67 hC67 hroom67 hi067 hsz67
            have KY67 := Aside0.mk hy67
            clear hy67
            replace q67 := eq_true q67
            go_wp2_with (first | ((with_reducible refine gate_callee (f := 37) rfl ?_); refine goesL_ (some 90) rfl rfl Try.func37 (by kernel_rfl) rfl #[.slice Ao68 y201.length co68] rfl (by (try simp only [List.map_toArray, List.map_cons, List.map_nil]); first | done | rfl) ?_; (with_reducible refine (impl_InvM.calls _ _ y201 t206 true _ ?side1 ?side2 A61.out).mono ?_); (case side1 => repeat (first | exact (Kd.V_reads' HO205.out).2.2 | (with_reducible refine Kd.C_alloc ?_ _) | (with_reducible refine Kd.C_drewN ?_ _) | (with_reducible refine Kd.C_drew ?_))); (case side2 => exact (Kd.V_reads' HO205.out).2.1); rintro e w69 ⟨v208, rfl, ho0, hb⟩; refine ⟨_, rfl, ?_⟩; have n0_ := Aside0.mk (Kd.N_elder' (by exact HO_11.out) (Kd.S_base ho0) hb); have n1_ := Aside0.mk (Kd.N_elder' (by exact HO_12.out) (Kd.S_base ho0) hb); have n2_ := Aside0.mk (Kd.R_below (by exact HO_13.out) hb); have n3_ := Aside0.mk (Kd.V_elder' (by exact HO205.out) (Kd.S_base ho0) hb); have n4_ := Aside0.mk (Kd.N_lower (Kd.N_mono (ok' := fun k_ => some k_ ≠ (v168 : Value).ownBlock ∧ some k_ ≠ (.slice Ao68 x12_2.length co68 : Value).ownBlock ∧ some k_ ≠ (.slice Ao66 x13_2.length co66 : Value).ownBlock) (Kd.S_N (Kd.S_bound ho0)) (fun k_ hk_ => ⟨(Kd.fresh' (Kd.N_lt (by exact HO_11.out)) k_ hk_.2.1), (Kd.fresh' (Kd.N_lt (by exact HO_12.out)) k_ hk_.2.1), (Kd.fresh' (Kd.R_lt (by exact HO_13.out)) k_ hk_.2.1)⟩)) (below_size (by repeat (first | exact HB.out | apply below_alloc | apply pw_below_drewN | apply below_drew1)))); have n5_ := Aside0.mk (below_step (by repeat (first | exact HB.out | apply below_alloc | apply pw_below_drewN | apply below_drew1)) hb); clear HO_11; clear HO_12; clear HO_13; clear HO205; clear HB; have HO_11 := n0_; have HO_12 := n1_; have HO_13 := n2_; have HO205 := n3_; have HO209 := n4_; have HB := n5_; clear n0_ n1_ n2_ n3_ n4_ n5_; (try clear hb); (try clear ho0); have q70 : (t164 : Int) ≤ ((x13_2.length : Int) : Int) := of_decide_eq_true (by assumption); obtain ⟨i070, hi070, _, hsz70, _⟩ := info_parts info9; have hroom70 : x13_2.length ≤ co66 := (Kd.R_reads' HO_13.out).2.1; have hC70 : Kd.F Kd.string _ _ Ao66 x13_2.length x13_2 := (Kd.V_at (base := w.heap.size) (Kd.R_V (Kd.R_apart' (Kd.R_apart' (Kd.R_apart' (HO_13.out) (Kd.N_typed HO_11.out) (by decide)) (Kd.N_typed HO_12.out) (by decide)) (Kd.N_typed HO209.out) (by decide)))).2.2; have hcut70 := cut_to (P := Try.prog) 24 9 .i64 Try.underlying24 hi070 Ao66 x13_2.length co66 t164 (of_decide_eq_true (by assumption)) q70 hroom70; have hr70 := Kd.F_take (m := (t164 : Int).toNat) hC70 (by omega); have hy70 : y210.length = (t164 : Int).toNat := (by rw [Ny210.out, List.length_take]; omega); rw [← Ny210.out] at hr70; rw [← hy70] at hcut70; have HO214 := Aside0.mk (show Kd.V Kd.string 9 _ w.heap.size _ (.slice Ao66 y210.length co66) y210 from Kd.V_mk (by omega) hr70); have HC214 := Aside0.mk (show y210.length ≤ co66 from by omega); clear hr70 hC70 hroom70 hi070 hsz70; have KY70 := Aside0.mk hy70; clear hy70; replace q70 := eq_true q70; obtain ⟨Ao71, co71, eo71⟩ := Kd.N_slice HO209.out; subst eo71) | ((with_reducible refine gate_callee (f := 31) rfl ?_); refine goesL_ (some 99) rfl rfl Try.func31 (by kernel_rfl) rfl #[.slice Ao71 t206.length co71, .slice Ao66 y210.length co66] rfl (by (try simp only [List.map_toArray, List.map_cons, List.map_nil]); first | done | rfl) ?_; (with_reducible refine (impl_ApplyM.calls k2 _ _ t206 _ _ y210 t215 _ ?side1 ?side2 ?side3 ?side4 A65.out).mono ?_); (case side1 => repeat (first | exact (Kd.N_reads' HO209.out).2.2 | (with_reducible refine Kd.C_alloc ?_ _) | (with_reducible refine Kd.C_drewN ?_ _) | (with_reducible refine Kd.C_drew ?_))); (case side2 => exact (Kd.N_reads' HO209.out).2.1); (case side3 => repeat (first | exact (Kd.V_reads' HO214.out).2.2 | (with_reducible refine Kd.C_alloc ?_ _) | (with_reducible refine Kd.C_drewN ?_ _) | (with_reducible refine Kd.C_drew ?_))); (case side4 => exact (Kd.V_reads' HO214.out).2.1); rintro e w72 ⟨v216, rfl, ho0, hb⟩; refine ⟨_, rfl, ?_⟩; have n0_ := Aside0.mk (Kd.N_elder' (by exact HO_11.out) (Kd.R_base ho0) hb); have n1_ := Aside0.mk (Kd.N_elder' (by exact HO_12.out) (Kd.R_base ho0) hb); have n2_ := Aside0.mk (Kd.R_elder' (by exact HO_13.out) (Kd.R_base ho0) hb); have n3_ := Aside0.mk (Kd.V_elder' (by exact HO205.out) (Kd.R_base ho0) hb); have n4_ := Aside0.mk (Kd.N_elder' (by exact HO209.out) (Kd.R_base ho0) hb); have n5_ := Aside0.mk (Kd.V_elder' (by exact HO214.out) (Kd.R_base ho0) hb); have n6_ := Aside0.mk (Kd.R_lower (Kd.R_new' ho0 (Kd.R_lt (by exact HO_13.out))) (below_size (by repeat (first | exact HB.out | apply below_alloc | apply pw_below_drewN | apply below_drew1)))); have n7_ := Aside0.mk (below_step (by repeat (first | exact HB.out | apply below_alloc | apply pw_below_drewN | apply below_drew1)) hb); clear HO_11; clear HO_12; clear HO_13; clear HO205; clear HO209; clear HO214; clear HB; have HO_11 := n0_; have HO_12 := n1_; have HO_13 := n2_; have HO205 := n3_; have HO209 := n4_; have HO214 := n5_; have HO217 := n6_; have HB := n7_; clear n0_ n1_ n2_ n3_ n4_ n5_ n6_ n7_; (try clear hb); (try clear hk); (try clear ho0)))
            go_ret2
            exact ⟨_, by first | rfl | (simp [errW_none, errW_some] <;> rfl) | (simp [*, errW_none, errW_some] <;> rfl), by exact Kd.R_mono HO217.out (fun _ hk => trivial), by repeat (first | exact HB.out | apply below_alloc | apply pw_below_drewN | apply below_drew1)⟩
           ·rw [if_neg c64] at H
            exact absurd H (by simp)
          ·replace c62 := Bool.eq_false_iff.mpr c62
           subst c62
           have H1 : (some (([] : List ByteArray), false)) = some (r1, r2) := by rw [if_neg (show ¬ (false = true) by decide)] at H; exact H
           clear H
           have H := H1
           clear H1
           simp only [Option.some.injEq, Prod.mk.injEq] at H
           obtain ⟨rfl, rfl⟩ := H
           obtain ⟨Ao73, co73, eo73⟩ := Kd.R_slice HO_13.out
           subst eo73
           obtain ⟨Ao75, co75, eo75⟩ := Kd.N_slice HO_12.out
           subst eo75
           have q74 : (t164 : Int) ≤ ((x12_2.length : Int) : Int) := of_decide_eq_true (by assumption)
           obtain ⟨i074, hi074, _, hsz74, _⟩ := info_parts info32
           have hroom74 : x12_2.length ≤ co75 := (Kd.N_reads' HO_12.out).2.1
           have hC74 : Kd.F (Kd.slice 3 (Kd.int .i64)) _ _ Ao75 x12_2.length x12_2 := (Kd.V_at (base := w.heap.size) (Kd.N_V HO_12.out)).2.2
           have hcut74 := cut_to (P := Try.prog) 49 32 .i64 Try.underlying49 hi074 Ao75 x12_2.length co75 t164 (of_decide_eq_true (by assumption)) q74 hroom74
           have hr74 := Kd.F_take (m := (t164 : Int).toNat) hC74 (by omega)
           have hy74 : y201.length = (t164 : Int).toNat := (by rw [Ny201.out, List.length_take]; omega)
           rw [← Ny201.out] at hr74
           rw [← hy74] at hcut74
           have HO205 := Aside0.mk (show Kd.V (Kd.slice 3 (Kd.int .i64)) 32 _ w.heap.size _ (.slice Ao75 y201.length co75) y201 from Kd.V_mk (by omega) hr74)
           have HC205 := Aside0.mk (show y201.length ≤ co75 from by omega)
           clear hr74 hC74 hroom74 hi074 hsz74
           have KY74 := Aside0.mk hy74
           clear hy74
           replace q74 := eq_true q74
           go_wp2_with (first | ((with_reducible refine gate_callee (f := 37) rfl ?_); refine goesL_ (some 90) rfl rfl Try.func37 (by kernel_rfl) rfl #[.slice Ao75 y201.length co75] rfl (by (try simp only [List.map_toArray, List.map_cons, List.map_nil]); first | done | rfl) ?_; (with_reducible refine (impl_InvM.calls _ _ y201 t206 false _ ?side1 ?side2 A61.out).mono ?_); (case side1 => repeat (first | exact (Kd.V_reads' HO205.out).2.2 | (with_reducible refine Kd.C_alloc ?_ _) | (with_reducible refine Kd.C_drewN ?_ _) | (with_reducible refine Kd.C_drew ?_))); (case side2 => exact (Kd.V_reads' HO205.out).2.1); rintro e w76 ⟨v208, rfl, ho0, hb⟩; refine ⟨_, rfl, ?_⟩; have n0_ := Aside0.mk (Kd.N_elder' (by exact HO_11.out) (Kd.S_base ho0) hb); have n1_ := Aside0.mk (Kd.N_elder' (by exact HO_12.out) (Kd.S_base ho0) hb); have n2_ := Aside0.mk (Kd.R_below (by exact HO_13.out) hb); have n3_ := Aside0.mk (Kd.V_elder' (by exact HO205.out) (Kd.S_base ho0) hb); have n4_ := Aside0.mk (Kd.N_lower (Kd.N_mono (ok' := fun k_ => some k_ ≠ (v168 : Value).ownBlock ∧ some k_ ≠ (.slice Ao75 x12_2.length co75 : Value).ownBlock ∧ some k_ ≠ (.slice Ao73 x13_2.length co73 : Value).ownBlock) (Kd.S_N (Kd.S_bound ho0)) (fun k_ hk_ => ⟨(Kd.fresh' (Kd.N_lt (by exact HO_11.out)) k_ hk_.2.1), (Kd.fresh' (Kd.N_lt (by exact HO_12.out)) k_ hk_.2.1), (Kd.fresh' (Kd.R_lt (by exact HO_13.out)) k_ hk_.2.1)⟩)) (below_size (by repeat (first | exact HB.out | apply below_alloc | apply pw_below_drewN | apply below_drew1)))); have n5_ := Aside0.mk (below_step (by repeat (first | exact HB.out | apply below_alloc | apply pw_below_drewN | apply below_drew1)) hb); clear HO_11; clear HO_12; clear HO_13; clear HO205; clear HB; have HO_11 := n0_; have HO_12 := n1_; have HO_13 := n2_; have HO205 := n3_; have HO209 := n4_; have HB := n5_; clear n0_ n1_ n2_ n3_ n4_ n5_; (try clear hb); (try clear ho0)))
           go_ret2
           exact ⟨_, by first | rfl | (simp [errW_none, errW_some] <;> rfl) | (simp [*, errW_none, errW_some] <;> rfl), by first | exact Kd.R_nil _ _ _ _ _ | exact Kd.N_nil _ _ _ _ _ | exact Kd.V_nil _ _ _ _ _ | exact Kd.Q_nil _ _ _ _ _ | exact Kd.S_nil _ _ _ _ _, by repeat (first | exact HB.out | apply below_alloc | apply pw_below_drewN | apply below_drew1)⟩
         ·rw [if_neg c60] at H
          exact absurd H (by simp)
        ·rw [if_neg c59] at H
         exact absurd H (by simp)

end Go.Proofs.Ytcpcphdhaboekaa.XFnExactDecode
