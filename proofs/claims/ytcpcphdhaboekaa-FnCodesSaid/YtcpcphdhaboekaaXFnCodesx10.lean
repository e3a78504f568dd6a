/- What the functions of a law compute, and that their calls compute it: written by a program of this session (xprint.py), which turns the kit print at a few places. -/
import Derived.Test.YtcpcphdhaboekaaXFnCodesx0
import Derived.Test.YtcpcphdhaboekaaXFnCodesx1
import Derived.Test.YtcpcphdhaboekaaXFnCodesx3
import Derived.Test.YtcpcphdhaboekaaXFnCodesx4
import Derived.Test.YtcpcphdhaboekaaXFnCodesx9
namespace Go.Proofs.Ytcpcphdhaboekaa.XFnCodes
open Go.RowKit Go.Proofs.YtcpcphdhaboekaaT.PrintWords Go.Proofs.YtcpcphdhaboekaaT.PrintLast Go.Proofs.YtcpcphdhaboekaaT.PrintMore
attribute [local go_sem] max2_int min2_int max_two min_two max_three min_three max_four min_four   -- for this text's walks alone
set_option linter.unusedVariables false
set_option linter.unusedSimpArgs false

/-! ### impl_Decode: function 14 -/
mutual
def impl_Decode.j0 : Nat → Int → List ByteArray → List Bool → Int → Bool → Option (List ByteArray × Bool)
 | 0, _, _, _, _, _ => none
 | k + 1, x0, x1, x2, x8, x40 => if x40 = true then (some (([] : List ByteArray), false)) else ((impl_CodeOf.f k x0).bind fun t354 => (impl_Decode.l0 k x1 x8 t354 ([] : List (List Int)) ([] : List ByteArray) x2 (x2.length : Int) 0))
def impl_Decode.l0 : Nat → List ByteArray → Int → List (List Int) → List (List Int) → List ByteArray → List Bool → Int → Int → Option (List ByteArray × Bool)
 | 0, _, _, _, _, _, _, _, _ => none
 | k + 1, x1, x8, x11, x12, x13, x43, x44, x45 => if x45 < x44 then (if 0 ≤ x45 then (if x45 < (x43.length : Int) then (if rdOf false x43 x45 = true then (if (x13.length : Int) > 0 then (if x45 < (x1.length : Int) then (if 0 < (x13.length : Int) then (if ((rdOf ByteArray.empty x1 x45).size : Int) = ((rdOf ByteArray.empty x13 0).size : Int) then (if x45 < (x11.length : Int) then ((some (([rd_L3 x11 x45] : List (List Int)) : List (List Int))).bind fun y361 => (if x12.length + y361.length < 5864062014805 then ((some (([rdOf ByteArray.empty x1 x45] : List ByteArray) : List ByteArray)).bind fun y368 => (if x13.length + y368.length < 8796093022208 then (impl_Decode.l0 k x1 x8 x11 (x12 ++ y361) (x13 ++ y368) x43 x44 (wrap64 (x45 + 1))) else (none))) else (none))) else (none)) else (some (([] : List ByteArray), false))) else (none)) else (none)) else (if x45 < (x11.length : Int) then ((some (([rd_L3 x11 x45] : List (List Int)) : List (List Int))).bind fun y375 => (if x12.length + y375.length < 5864062014805 then (if x45 < (x1.length : Int) then ((some (([rdOf ByteArray.empty x1 x45] : List ByteArray) : List ByteArray)).bind fun y382 => (if x13.length + y382.length < 8796093022208 then (impl_Decode.l0 k x1 x8 x11 (x12 ++ y375) (x13 ++ y382) x43 x44 (wrap64 (x45 + 1))) else (none))) else (none)) else (none))) else (none))) else (impl_Decode.l0 k x1 x8 x11 x12 x13 x43 x44 (wrap64 (x45 + 1)))) else (none)) else (none)) else (if (x13.length : Int) < x8 then (some (([] : List ByteArray), false)) else (if 0 ≤ x8 then (if x8 ≤ (x12.length : Int) then ((impl_InvM.f (x12.take (x8 : Int).toNat)).bind fun bt393 => (if bt393.2 = true then (if x8 ≤ (x13.length : Int) then ((impl_ApplyM.f k bt393.1 (x13.take (x8 : Int).toNat)).bind fun t402 => (some (t402, true))) else (none)) else (some (([] : List ByteArray), false)))) else (none)) else (none)))
end
def impl_Decode.f (k : Nat) (a0 : Int) (l1 : List ByteArray) (l2 : List Bool) : Option (List ByteArray × Bool) := (impl_SchemaOf.f a0).bind fun bt351 => (if bt351.2.2 = true then (if (l1.length : Int) = (wrap64 (bt351.1 + bt351.2.1)) then (impl_Decode.j0 k a0 l1 l2 bt351.1 ((l2.length : Int) != (wrap64 (bt351.1 + bt351.2.1)))) else (impl_Decode.j0 k a0 l1 l2 bt351.1 true)) else (impl_Decode.j0 k a0 l1 l2 bt351.1 true))
theorem impl_Decode.mono_l : ∀ k, (∀ y0 y1 y2 y3 y4, LeO (impl_Decode.j0 k y0 y1 y2 y3 y4) (impl_Decode.j0 (k + 1) y0 y1 y2 y3 y4)) ∧ (∀ y0 y1 y2 y3 y4 y5 y6 y7, LeO (impl_Decode.l0 k y0 y1 y2 y3 y4 y5 y6 y7) (impl_Decode.l0 (k + 1) y0 y1 y2 y3 y4 y5 y6 y7))
 | 0 => ⟨fun _ _ _ _ _ r h => by simp [impl_Decode.j0] at h, fun _ _ _ _ _ _ _ _ r h => by simp [impl_Decode.l0] at h⟩
 | k + 1 => by
  obtain ⟨ih0, ih1⟩ := impl_Decode.mono_l k
  refine ⟨?_, ?_⟩
  ·intro y0 y1 y2 y3 y4
   unfold impl_Decode.j0
   repeat' first
   | (with_reducible exact LeO.refl _)
   | (with_reducible refine LeO.ite ?_ ?_)
   | (with_reducible refine LeO.bind ?_ (fun _ => ?_))
   | exact ih0 _ _ _ _ _
   | exact ih1 _ _ _ _ _ _ _ _
   | exact impl_ApplyM.mono _ _ _
   | exact impl_CodeOf.mono _ _
   | exact LeO.none _
   | refine LeO.ite ?_ ?_
   | refine LeO.bind ?_ (fun _ => ?_)
  ·intro y0 y1 y2 y3 y4 y5 y6 y7
   unfold impl_Decode.l0
   repeat' first
   | (with_reducible exact LeO.refl _)
   | (with_reducible refine LeO.ite ?_ ?_)
   | (with_reducible refine LeO.bind ?_ (fun _ => ?_))
   | exact ih0 _ _ _ _ _
   | exact ih1 _ _ _ _ _ _ _ _
   | exact impl_ApplyM.mono _ _ _
   | exact impl_CodeOf.mono _ _
   | exact LeO.none _
   | refine LeO.ite ?_ ?_
   | refine LeO.bind ?_ (fun _ => ?_)
theorem impl_Decode.mono : ∀ a0 a1 a2 k, LeO (impl_Decode.f k a0 a1 a2) (impl_Decode.f (k + 1) a0 a1 a2) := by
 intro a0 a1 a2 k
 obtain ⟨ih0, ih1⟩ := impl_Decode.mono_l k
 unfold impl_Decode.f
 repeat' first
   | (with_reducible exact LeO.refl _)
   | (with_reducible refine LeO.ite ?_ ?_)
   | (with_reducible refine LeO.bind ?_ (fun _ => ?_))
   | exact ih0 _ _ _ _ _
   | exact ih1 _ _ _ _ _ _ _ _
   | exact impl_ApplyM.mono _ _ _
   | exact impl_CodeOf.mono _ _
   | exact LeO.none _
   | refine LeO.ite ?_ ?_
   | refine LeO.bind ?_ (fun _ => ?_)
def impl_Decode.T11 : Bool × List (List Nat × List Nat) := (true, [([], []), ([0], [0]), ([1], [1]), ([2], [2]), ([3], [3]), ([3], [3]), ([4, 5, 3], [3, 4, 5]), ([6, 3], [3, 6]), ([7, 3], [3, 7]), ([3], [3]), ([9, 3], [3, 9]), ([10, 3], [3, 10]), ([11, 3], [3, 11]), ([8, 12, 3], [3, 8, 12]), ([3, 13], [3, 13])])
def impl_Decode.B11 : List Nat := [0, 1, 3, 7, 15, 15, 63, 127, 255, 15, 527, 1551, 3599, 8191, 16383]
theorem impl_Decode.tab11 : rtab .any (opsOf Try.f14 11) = impl_Decode.T11 := by kernel_rfl
theorem impl_Decode.bits11 : waitsOk impl_Decode.T11.2 impl_Decode.B11 = true := by kernel_rfl
def impl_Decode.T13 : Bool × List (List Nat × List Nat) := (true, [([], []), ([], []), ([], []), ([1, 2], [1, 2]), ([3], [3]), ([4], [4]), ([0, 5], [0, 5]), ([], []), ([], []), ([], []), ([8, 9], [8, 9]), ([10], [10]), ([11], [11]), ([7, 12, 6], [7, 12]), ([6, 13, 0, 1, 2, 3, 4, 5, 6], [0, 6]), ([13, 14, 0, 1, 2, 3, 4, 5, 6, 7, 8, 9, 10, 11, 12, 13, 14], [7, 13])])
def impl_Decode.B13 : List Nat := [0, 0, 0, 6, 14, 30, 63, 0, 0, 0, 768, 1792, 3840, 8191, 16383, 32767]
theorem impl_Decode.tab13 : rtab .any (opsOf Try.f14 13) = impl_Decode.T13 := by kernel_rfl
theorem impl_Decode.bits13 : waitsOk impl_Decode.T13.2 impl_Decode.B13 = true := by kernel_rfl
set_option maxHeartbeats 8000000 in
set_option maxRecDepth 100000 in
theorem impl_Decode.calls (k : Nat) (a0 : Int) (A1 : Option Addr) (c1 : Nat) (l1 : List ByteArray) (A2 : Option Addr) (c2 : Nat) (l2 : List Bool) (r1 : List ByteArray) (r2 : Bool) (w : World) (hr1 : Kd.C Kd.string w A1 l1.length l1) (hc1 : l1.length ≤ c1) (hr2 : Kd.C Kd.bool w A2 l2.length l2) (hc2 : l2.length ≤ c2) (h : impl_Decode.f k a0 l1 l2 = some (r1, r2)) :
  Calls Try.prog 14 #[.int .i64 a0, .slice A1 l1.length c1, .slice A2 l2.length c2] w fun e w' => ∃ v0_ : Value, e = .returned (.tuple #[v0_, .bool r2]) ∧ Kd.R Kd.string 9 w' w.heap.size (fun _ => True) v0_ r1 ∧ Below w.heap.size w w' := by
 have HR1 := Aside0.mk hr1
 have HC1 := Aside0.mk hc1
 clear hr1 hc1
 have HR2 := Aside0.mk hr2
 have HC2 := Aside0.mk hc2
 clear hr2 hc2
 have HB := Aside0.mk (Below.refl w.heap.size w)
 have H : ((impl_SchemaOf.f a0).bind fun bt351 => (if bt351.2.2 = true then (if (l1.length : Int) = (wrap64 (bt351.1 + bt351.2.1)) then (impl_Decode.j0 k a0 l1 l2 bt351.1 ((l2.length : Int) != (wrap64 (bt351.1 + bt351.2.1)))) else (impl_Decode.j0 k a0 l1 l2 bt351.1 true)) else (impl_Decode.j0 k a0 l1 l2 bt351.1 true))) = some (r1, r2) := h
 clear h
 replace H := Option.bind_eq_some_iff.mp H
 obtain ⟨⟨t351, t352, t353⟩, A40, H⟩ := H
 replace H : (if t353 = true then (if (l1.length : Int) = (wrap64 (t351 + t352)) then (impl_Decode.j0 k a0 l1 l2 t351 ((l2.length : Int) != (wrap64 (t351 + t352)))) else (impl_Decode.j0 k a0 l1 l2 t351 true)) else (impl_Decode.j0 k a0 l1 l2 t351 true)) = some (r1, r2) := H
 have A4 := Aside0.mk A40
 clear A40
 have HC5 := Aside0.mk H
 clear H
 go_enter Try.func14, Try.ntmps14
 go_upto_region 2 with (first | ((with_reducible refine gate_callee (f := 9) rfl ?_); refine goesL_ (some 19) rfl rfl Try.func9 (by kernel_rfl) rfl #[.int .i64 a0] rfl (by (try simp only [List.map_toArray, List.map_cons, List.map_nil]); first | done | rfl) ?_; (with_reducible refine (impl_SchemaOf.calls a0 t351 t352 t353 _ A4.out).mono ?_); rintro e w' ⟨rfl, ⟨nd, rfl⟩⟩; refine ⟨_, rfl, ?_⟩))
 (try simp only [Act.put, List.setIfInBounds_toArray, List.set_cons_zero, List.set_cons_succ])
 go_cut [40] (fun v40 wc => ∃ (kq : Nat) (x40_4 : Bool), v40 = .bool x40_4 ∧ Aside0 (impl_Decode.j0 kq a0 l1 l2 t351 x40_4 = some (r1, r2)) ∧ Aside0 (kq ≤ k) ∧ Aside0 (Below w.heap.size w wc))
 case first =>
  have H := HC5.out
  clear HC5
  by_cases c6 : t353 = true
  ·subst c6
   have H1 : (if (l1.length : Int) = (wrap64 (t351 + t352)) then (impl_Decode.j0 k a0 l1 l2 t351 ((l2.length : Int) != (wrap64 (t351 + t352)))) else (impl_Decode.j0 k a0 l1 l2 t351 true)) = some (r1, r2) := by rw [if_pos rfl] at H; exact H
   clear H
   have H := H1
   clear H1
   by_cases c7 : (l1.length : Int) = (wrap64 (t351 + t352))
   ·rw [if_pos c7] at H
    have c7b0 : ((l1.length : Int) == (wrap64 (t351 + t352))) = true := beq_iff_eq.mpr c7
    have c7b1 : ((l1.length : Int) != (wrap64 (t351 + t352))) = false := bne_eq_false_iff_eq.mpr c7
    clear c7
    (first | rw [c7b0] | (simp only [i64_w, i32_w]; rw [c7b0]) | rw [c7b1] | skip)
    have H' := Aside0.mk H
    clear H
    go_wp2
    go_meet
    case rel => exact ⟨_, (((l2.length : Int) != (wrap64 (t351 + t352)))), (by first | rfl | (simp; done) | (simp [*]; done)), H', ⟨by first | omega | exact Nat.le_refl _⟩, ⟨by repeat (first | exact HB.out | apply below_alloc | apply pw_below_drewN | apply below_drew1)⟩⟩
   ·rw [if_neg c7] at H
    have c7b0 : ((l1.length : Int) == (wrap64 (t351 + t352))) = false := beq_eq_false_iff_ne.mpr c7
    have c7b1 : ((l1.length : Int) != (wrap64 (t351 + t352))) = true := bne_iff_ne.mpr c7
    (first | rw [c7b0] | (simp only [i64_w, i32_w]; rw [c7b0]) | rw [c7b1] | skip)
    have H' := Aside0.mk H
    clear H
    go_wp2
    go_meet
    case rel => exact ⟨_, (true), (by first | rfl | (simp; done) | (simp [*]; done)), H', ⟨by first | omega | exact Nat.le_refl _⟩, ⟨by repeat (first | exact HB.out | apply below_alloc | apply pw_below_drewN | apply below_drew1)⟩⟩
  ·replace c6 := Bool.eq_false_iff.mpr c6
   subst c6
   have H1 : (impl_Decode.j0 k a0 l1 l2 t351 true) = some (r1, r2) := by rw [if_neg (show ¬ (false = true) by decide)] at H; exact H
   clear H
   have H := H1
   clear H1
   have H' := Aside0.mk H
   clear H
   go_wp2
   go_meet
   case rel => exact ⟨_, (true), (by first | rfl | (simp; done) | (simp [*]; done)), H', ⟨by first | omega | exact Nat.le_refl _⟩, ⟨by repeat (first | exact HB.out | apply below_alloc | apply pw_below_drewN | apply below_drew1)⟩⟩
 case rest =>
  clear HC5
  obtain ⟨kq, x40_4, rfl, HA, HJ4, HB⟩ := hcut
  cases kq with
  | zero => exact absurd HA.out (by simp [impl_Decode.j0])
  | succ kj4 =>
   have H := HA.out
   clear HA
   simp only [impl_Decode.j0] at H
   by_cases c8 : x40_4 = true
   ·subst c8
    have H1 : (some (([] : List ByteArray), false)) = some (r1, r2) := by rw [if_pos rfl] at H; exact H
    clear H
    have H := H1
    clear H1
    simp only [Option.some.injEq, Prod.mk.injEq] at H
    obtain ⟨rfl, rfl⟩ := H
    go_wp2
    go_ret2
    exact ⟨_, by first | rfl | (simp [errW_none, errW_some] <;> rfl) | (simp [*, errW_none, errW_some] <;> rfl), by first | exact Kd.R_nil _ _ _ _ _ | exact Kd.N_nil _ _ _ _ _ | exact Kd.V_nil _ _ _ _ _ | exact Kd.Q_nil _ _ _ _ _ | exact Kd.S_nil _ _ _ _ _, by repeat (first | exact HB.out | apply below_alloc | apply pw_below_drewN | apply below_drew1)⟩
   ·replace c8 := Bool.eq_false_iff.mpr c8
    subst c8
    have H1 : ((impl_CodeOf.f kj4 a0).bind fun t354 => (impl_Decode.l0 kj4 l1 t351 t354 ([] : List (List Int)) ([] : List ByteArray) l2 (l2.length : Int) 0)) = some (r1, r2) := by rw [if_neg (show ¬ (false = true) by decide)] at H; exact H
    clear H
    have H := H1
    clear H1
    replace H := Option.bind_eq_some_iff.mp H
    obtain ⟨t354, A90, H⟩ := H
    replace H : (impl_Decode.l0 kj4 l1 t351 t354 ([] : List (List Int)) ([] : List ByteArray) l2 (l2.length : Int) 0) = some (r1, r2) := H
    have A9 := Aside0.mk A90
    clear A90
    have H' := Aside0.mk H
    clear H
    go_wp2_with (first | ((with_reducible refine gate_callee (f := 32) rfl ?_); refine goesL_ (some 42) rfl rfl Try.func32 (by kernel_rfl) rfl #[.int .i64 a0] rfl (by (try simp only [List.map_toArray, List.map_cons, List.map_nil]); first | done | rfl) ?_; (with_reducible refine (impl_CodeOf.calls kj4 a0 t354 _ A9.out).mono ?_); rintro e w10 ⟨v355, rfl, ho0, hb⟩; refine ⟨_, rfl, ?_⟩; have n0_ := Aside0.mk (Kd.N_lower (Kd.N_mono (ok' := fun k_ => True) (Kd.S_N (Kd.S_bound ho0)) (fun k_ hk_ => trivial)) (below_size (by repeat (first | exact HB.out | apply below_alloc | apply pw_below_drewN | apply below_drew1)))); have n1_ := Aside0.mk (below_step (by repeat (first | exact HB.out | apply below_alloc | apply pw_below_drewN | apply below_drew1)) hb); clear HB; have HO356 := n0_; have HB := n1_; clear n0_ n1_; (try clear hb); (try clear hk); (try clear ho0)))
    go_loopg [12, 13, 45] kj4 (fun kq v12 v13 v45 w' => ∃ (x12_2 : List (List Int)) (x13_2 : List ByteArray) (x45_2 : Int), v45 = .int .i64 x45_2 ∧ Aside0 (impl_Decode.l0 kq l1 t351 t354 x12_2 x13_2 l2 (l2.length : Int) x45_2 = some (r1, r2)) ∧ Aside0 (kq ≤ kj4) ∧ Aside0 (Kd.N (Kd.slice 3 (Kd.int .i64)) 32 w' w.heap.size (fun k_ => some k_ ≠ (v12 : Value).ownBlock ∧ some k_ ≠ (v13 : Value).ownBlock) v355 t354) ∧ Aside0 (Kd.N (Kd.slice 3 (Kd.int .i64)) 32 w' w.heap.size (fun k_ => some k_ ≠ (v355 : Value).ownBlock ∧ some k_ ≠ (v13 : Value).ownBlock) v12 x12_2) ∧ Aside0 (Kd.R Kd.string 9 w' w.heap.size (fun _ => True) v13 x13_2) ∧ Aside0 (Below w.heap.size w w'))
    case atStart => exact ⟨(([] : List (List Int))), (([] : List ByteArray)), (0), (by first | rfl | (simp; done) | (simp [*]; done)), H', ⟨Nat.le_refl _⟩, ⟨by exact Kd.N_mono HO356.out (fun _ hk => ⟨(by simp [Value.ownBlock]), (by simp [Value.ownBlock])⟩)⟩, ⟨by first | exact Kd.S_nil _ _ _ _ _ | exact Kd.N_nil _ _ _ _ _ | exact Kd.V_nil _ _ _ _ _ | exact Kd.Q_nil _ _ _ _ _ | exact Kd.R_nil _ _ _ _ _⟩, ⟨by first | exact Kd.R_nil _ _ _ _ _ | exact Kd.N_nil _ _ _ _ _ | exact Kd.V_nil _ _ _ _ _ | exact Kd.Q_nil _ _ _ _ _ | exact Kd.S_nil _ _ _ _ _⟩, ⟨by repeat (first | exact HB.out | apply below_alloc | apply pw_below_drewN | apply below_drew1)⟩⟩
    case round =>
     clear H'
     obtain ⟨x12_2, x13_2, x45_2, rfl, HA, HK2, HO_11, HO_12, HO_13, HB⟩ := hrel
     cases gk with
     | zero => exact absurd HA.out (by simp [impl_Decode.l0])
     | succ k2 =>
      have H := HA.out
      clear HA
      simp only [impl_Decode.l0] at H
      by_cases c11 : x45_2 < (l2.length : Int)
      ·rw [if_pos c11] at H
       have c11b0 : decide (x45_2 < (l2.length : Int)) = true := decide_eq_true c11
       clear c11
       by_cases c12 : 0 ≤ x45_2
       ·rw [if_pos c12] at H
        have c12b0 : decide (0 ≤ x45_2) = true := decide_eq_true c12
        clear c12
        by_cases c13 : x45_2 < (l2.length : Int)
        ·rw [if_pos c13] at H
         have c13b0 : decide (x45_2 < (l2.length : Int)) = true := decide_eq_true c13
         clear c13
         obtain ⟨bq14, hbq14⟩ : ∃ b_ : Bool, b_ = (rdOf false l2 x45_2) := ⟨_, rfl⟩
         replace H : (if bq14 = true then (if (x13_2.length : Int) > 0 then (if x45_2 < (l1.length : Int) then (if 0 < (x13_2.length : Int) then (if ((rdOf ByteArray.empty l1 x45_2).size : Int) = ((rdOf ByteArray.empty x13_2 0).size : Int) then (if x45_2 < (t354.length : Int) then ((some (([rd_L3 t354 x45_2] : List (List Int)) : List (List Int))).bind fun y361 => (if x12_2.length + y361.length < 5864062014805 then ((some (([rdOf ByteArray.empty l1 x45_2] : List ByteArray) : List ByteArray)).bind fun y368 => (if x13_2.length + y368.length < 8796093022208 then (impl_Decode.l0 k2 l1 t351 t354 (x12_2 ++ y361) (x13_2 ++ y368) l2 (l2.length : Int) (wrap64 (x45_2 + 1))) else (none))) else (none))) else (none)) else (some (([] : List ByteArray), false))) else (none)) else (none)) else (if x45_2 < (t354.length : Int) then ((some (([rd_L3 t354 x45_2] : List (List Int)) : List (List Int))).bind fun y375 => (if x12_2.length + y375.length < 5864062014805 then (if x45_2 < (l1.length : Int) then ((some (([rdOf ByteArray.empty l1 x45_2] : List ByteArray) : List ByteArray)).bind fun y382 => (if x13_2.length + y382.length < 8796093022208 then (impl_Decode.l0 k2 l1 t351 t354 (x12_2 ++ y375) (x13_2 ++ y382) l2 (l2.length : Int) (wrap64 (x45_2 + 1))) else (none))) else (none)) else (none))) else (none))) else (impl_Decode.l0 k2 l1 t351 t354 x12_2 x13_2 l2 (l2.length : Int) (wrap64 (x45_2 + 1)))) = some (r1, r2) := by rw [← hbq14] at H; exact H
         have Nbq14 := Aside0.mk hbq14
         clear hbq14
         by_cases c15 : bq14 = true
         ·subst c15
          have H1 : (if (x13_2.length : Int) > 0 then (if x45_2 < (l1.length : Int) then (if 0 < (x13_2.length : Int) then (if ((rdOf ByteArray.empty l1 x45_2).size : Int) = ((rdOf ByteArray.empty x13_2 0).size : Int) then (if x45_2 < (t354.length : Int) then ((some (([rd_L3 t354 x45_2] : List (List Int)) : List (List Int))).bind fun y361 => (if x12_2.length + y361.length < 5864062014805 then ((some (([rdOf ByteArray.empty l1 x45_2] : List ByteArray) : List ByteArray)).bind fun y368 => (if x13_2.length + y368.length < 8796093022208 then (impl_Decode.l0 k2 l1 t351 t354 (x12_2 ++ y361) (x13_2 ++ y368) l2 (l2.length : Int) (wrap64 (x45_2 + 1))) else (none))) else (none))) else (none)) else (some (([] : List ByteArray), false))) else (none)) else (none)) else (if x45_2 < (t354.length : Int) then ((some (([rd_L3 t354 x45_2] : List (List Int)) : List (List Int))).bind fun y375 => (if x12_2.length + y375.length < 5864062014805 then (if x45_2 < (l1.length : Int) then ((some (([rdOf ByteArray.empty l1 x45_2] : List ByteArray) : List ByteArray)).bind fun y382 => (if x13_2.length + y382.length < 8796093022208 then (impl_Decode.l0 k2 l1 t351 t354 (x12_2 ++ y375) (x13_2 ++ y382) l2 (l2.length : Int) (wrap64 (x45_2 + 1))) else (none))) else (none)) else (none))) else (none))) = some (r1, r2) := by rw [if_pos rfl] at H; exact H
          clear H
          have H := H1
          clear H1
          by_cases c16 : (x13_2.length : Int) > 0
          ·rw [if_pos c16] at H
           have c16b0 : decide (0 < (x13_2.length : Int)) = true := decide_eq_true c16
           have c16b1 : decide (0 < x13_2.length) = true := decide_eq_true (by omega)
           clear c16
           by_cases c17 : x45_2 < (l1.length : Int)
           ·rw [if_pos c17] at H
            have c17b0 : decide (x45_2 < (l1.length : Int)) = true := decide_eq_true c17
            clear c17
            by_cases c18 : 0 < (x13_2.length : Int)
            ·rw [if_pos c18] at H
             have c18b0 : decide (0 < (x13_2.length : Int)) = true := decide_eq_true c18
             have c18b1 : decide (0 < x13_2.length) = true := decide_eq_true (by omega)
             clear c18
             by_cases c19 : ((rdOf ByteArray.empty l1 x45_2).size : Int) = ((rdOf ByteArray.empty x13_2 0).size : Int)
             ·rw [if_pos c19] at H
              have c19b0 : (((rdOf ByteArray.empty l1 x45_2).size : Int) == ((rdOf ByteArray.empty x13_2 0).size : Int)) = true := beq_iff_eq.mpr c19
              have c19b1 : (((rdOf ByteArray.empty l1 x45_2).size : Int) != ((rdOf ByteArray.empty x13_2 0).size : Int)) = false := bne_eq_false_iff_eq.mpr c19
              have c19b2 : ((rdOf ByteArray.empty l1 x45_2).size == (rdOf ByteArray.empty x13_2 0).size) = true := by first | simpa using c19 | (simp at c19 ⊢; omega)
              clear c19
              by_cases c20 : x45_2 < (t354.length : Int)
              ·rw [if_pos c20] at H
               have c20b0 : decide (x45_2 < (t354.length : Int)) = true := decide_eq_true c20
               clear c20
               obtain ⟨y361, hy361⟩ : ∃ y_ : List (List Int), y_ = (([rd_L3 t354 x45_2] : List (List Int))) := ⟨_, rfl⟩
               replace H : (if x12_2.length + y361.length < 5864062014805 then ((some (([rdOf ByteArray.empty l1 x45_2] : List ByteArray) : List ByteArray)).bind fun y368 => (if x13_2.length + y368.length < 8796093022208 then (impl_Decode.l0 k2 l1 t351 t354 (x12_2 ++ y361) (x13_2 ++ y368) l2 (l2.length : Int) (wrap64 (x45_2 + 1))) else (none))) else (none)) = some (r1, r2) := by first | (rw [hy361]; with_reducible exact H) | (have H2_ := (Option.bind_some _ _).symm.trans H; rw [hy361]; with_reducible exact H2_) | (have H2_ := (Option.bind_some _ _).symm.trans H; with_reducible exact H2_) | with_reducible exact H | (rw [hy361]; exact H) | exact H
               have Ny361 := Aside0.mk hy361
               clear hy361
               by_cases c21 : x12_2.length + y361.length < 5864062014805
               ·rw [if_pos c21] at H
                have LMc21 := Aside0.mk c21
                clear c21
                obtain ⟨y364, hy364⟩ : ∃ y_ : List (List Int), y_ = (x12_2 ++ y361) := ⟨_, rfl⟩
                replace H : ((some (([rdOf ByteArray.empty l1 x45_2] : List ByteArray) : List ByteArray)).bind fun y368 => (if x13_2.length + y368.length < 8796093022208 then (impl_Decode.l0 k2 l1 t351 t354 y364 (x13_2 ++ y368) l2 (l2.length : Int) (wrap64 (x45_2 + 1))) else (none))) = some (r1, r2) := by first | (rw [hy364]; with_reducible exact H) | (have H2_ := (Option.bind_some _ _).symm.trans H; rw [hy364]; with_reducible exact H2_) | (have H2_ := (Option.bind_some _ _).symm.trans H; with_reducible exact H2_) | with_reducible exact H | (rw [hy364]; exact H) | exact H
                have Ny364 := Aside0.mk hy364
                clear hy364
                obtain ⟨y368, hy368⟩ : ∃ y_ : List ByteArray, y_ = (([rdOf ByteArray.empty l1 x45_2] : List ByteArray)) := ⟨_, rfl⟩
                replace H : (if x13_2.length + y368.length < 8796093022208 then (impl_Decode.l0 k2 l1 t351 t354 y364 (x13_2 ++ y368) l2 (l2.length : Int) (wrap64 (x45_2 + 1))) else (none)) = some (r1, r2) := by first | (rw [hy368]; with_reducible exact H) | (have H2_ := (Option.bind_some _ _).symm.trans H; rw [hy368]; with_reducible exact H2_) | (have H2_ := (Option.bind_some _ _).symm.trans H; with_reducible exact H2_) | with_reducible exact H | (rw [hy368]; exact H) | exact H
                have Ny368 := Aside0.mk hy368
                clear hy368
                by_cases c22 : x13_2.length + y368.length < 8796093022208
                ·rw [if_pos c22] at H
                 have LMc22 := Aside0.mk c22
                 clear c22
                 obtain ⟨y371, hy371⟩ : ∃ y_ : List ByteArray, y_ = (x13_2 ++ y368) := ⟨_, rfl⟩
                 replace H : (impl_Decode.l0 k2 l1 t351 t354 y364 y371 l2 (l2.length : Int) (wrap64 (x45_2 + 1))) = some (r1, r2) := by first | (rw [hy371]; with_reducible exact H) | (have H2_ := (Option.bind_some _ _).symm.trans H; rw [hy371]; with_reducible exact H2_) | (have H2_ := (Option.bind_some _ _).symm.trans H; with_reducible exact H2_) | with_reducible exact H | (rw [hy371]; exact H) | exact H
                 have Ny371 := Aside0.mk hy371
                 clear hy371
                 have H' := Aside0.mk H
                 clear H
                 have p357 : 0 ≤ (x45_2 : Int) := of_decide_eq_true (by assumption)
                 have q357 : x45_2 < (l2.length : Int) := of_decide_eq_true (by assumption)
                 obtain ⟨ad357, e357, hx357_0⟩ := Kd.at_bool HR2.out x45_2 p357 q357
                 (try rw [← Nbq14.out] at hx357_0)
                 cases e357
                 replace hx357_0 := (HB.out.cell (World.block_lt_of_cell? w _ hx357_0)).trans hx357_0
                 replace p357 := eq_true p357
                 replace q357 := eq_true q357
                 try go_wp2
                 have n0_ := Aside0.mk (Kd.N_drew HO_11.out)
                 have n1_ := Aside0.mk (Kd.N_drew HO_12.out)
                 have n2_ := Aside0.mk (Kd.R_drew HO_13.out)
                 have n3_ := Aside0.mk (below_drew1 HB.out)
                 clear HO_11
                 clear HO_12
                 clear HO_13
                 clear HB
                 have HO_11 := n0_
                 have HO_12 := n1_
                 have HO_13 := n2_
                 have HB := n3_
                 clear n0_ n1_ n2_ n3_
                 obtain ⟨Ao24, co24, eo24⟩ := Kd.R_slice HO_13.out
                 (first | subst eo24 | (injection eo24 with f1_ f2_ f3_; have f4_ := f1_.symm; have f5_ := f3_.symm; clear f1_ f2_ f3_; subst f4_; subst f5_))
                 have p358 : 0 ≤ (x45_2 : Int) := of_decide_eq_true (by assumption)
                 have q358 : x45_2 < (l1.length : Int) := of_decide_eq_true (by assumption)
                 obtain ⟨ad358, e358, hx358_0⟩ := Kd.at_string HR1.out x45_2 p358 q358
                 have hw358_0 := hx358_0
                 cases e358
                 replace hx358_0 := (HB.out.cell (World.block_lt_of_cell? w _ hx358_0)).trans hx358_0
                 replace p358 := eq_true p358
                 replace q358 := eq_true q358
                 have p359 : 0 ≤ (0 : Int) := (by omega)
                 have q359 : 0 < (x13_2.length : Int) := of_decide_eq_true (by assumption)
                 obtain ⟨ad359, e359, hx359_0⟩ := Kd.at_string (Kd.R_reads' HO_13.out).2.2 0 p359 q359
                 cases e359
                 have qi359 : (0 < x13_2.length) = True := eq_true (by omega)
                 (try rw [show ((0 : Int)).toNat = 0 from rfl] at hx359_0)
                 (try rw [Addr.add_zero'] at hx359_0)
                 replace p359 := eq_true p359
                 replace q359 := eq_true q359
                 refine start_ (n := 15) (S := fun w' => w'.cell? (ad358.add (x45_2).toNat) = some (.string (rdOf ByteArray.empty l1 x45_2)) ∧ w'.cell? ad359 = some (.string (rdOf ByteArray.empty x13_2 0))) (ds := []) #[false, false, false, false, false, false, false, false, false, false, false, false, false, false, false] (by kernel_rfl) rfl rfl ⟨((HB.out.cell (World.block_lt_of_cell? w _ hw358_0)).trans hw358_0), hx359_0⟩ (fun hHeld => ?_); refine with_tabW impl_Decode.tab11 impl_Decode.bits11 (fun HT_ HW_ => ?_)
                 generalize wr.drew = w23 at HO_11 HO_12 HO_13 HB hx358_0 hx359_0 hHeld ⊢
                 refine pure_ (i := 0) (N := some 52) (v := ?_) (a' := ?_) #[true, false, false, false, false, false, false, false, false, false, false, false, false, false, false] rfl rfl (any_of HT_.out (by kernel_rfl)) (fun _ _ _ h => h) (Or.inl ⟨by rfl, ?_⟩) ?_ ?_
                 rotate_left
                 ·intro w'
                  go_simp
                  with_reducible rfl
                 rotate_left
                 ·simp only [Act.put, List.setIfInBounds_toArray, List.set_cons_zero, List.set_cons_succ, i64_w, i32_w]
                  rfl
                 refine pure_ (i := 1) (N := some 53) (v := ?_) (a' := ?_) #[true, true, false, false, false, false, false, false, false, false, false, false, false, false, false] rfl rfl (any_of HT_.out (by kernel_rfl)) (fun _ _ _ h => h) (Or.inl ⟨by rfl, ?_⟩) ?_ ?_
                 rotate_left
                 ·intro w'
                  go_simp
                  with_reducible rfl
                 rotate_left
                 ·simp only [Act.put, List.setIfInBounds_toArray, List.set_cons_zero, List.set_cons_succ, i64_w, i32_w]
                  rfl
                 refine pure_ (i := 2) (N := some 54) (v := ?_) (a' := ?_) #[true, true, true, false, false, false, false, false, false, false, false, false, false, false, false] rfl rfl (any_of HT_.out (by kernel_rfl)) (fun _ _ _ h => h) (Or.inl ⟨by rfl, ?_⟩) ?_ ?_
                 rotate_left
                 ·intro w'
                  go_simp
                  with_reducible rfl
                 rotate_left
                 ·simp only [Act.put, List.setIfInBounds_toArray, List.set_cons_zero, List.set_cons_succ, i64_w, i32_w]
                  rfl
                 refine pure_ (i := 3) (N := some 55) (v := ?_) (a' := ?_) #[true, true, true, true, false, false, false, false, false, false, false, false, false, false, false] rfl rfl (any_of HT_.out (by kernel_rfl)) (fun _ _ _ h => h) (Or.inl ⟨by rfl, ?_⟩) ?_ ?_
                 rotate_left
                 ·intro w'
                  go_simp
                  with_reducible rfl
                 rotate_left
                 ·simp only [Act.put, List.setIfInBounds_toArray, List.set_cons_zero, List.set_cons_succ, i64_w, i32_w]
                  rfl
                 refine pure_ (i := 4) (N := some 56) (v := ?_) (a' := ?_) #[true, true, true, true, true, false, false, false, false, false, false, false, false, false, false] rfl rfl (any_of HT_.out (by kernel_rfl)) (fun _ _ _ h => h) (Or.inl ⟨by rfl, ?_⟩) ?_ ?_
                 rotate_left
                 ·intro w'
                  go_simp
                  with_reducible rfl
                 rotate_left
                 ·simp only [Act.put, List.setIfInBounds_toArray, List.set_cons_zero, List.set_cons_succ, i64_w, i32_w]
                  rfl
                 refine pure_ (i := 5) (N := some 57) (v := ?_) (a' := ?_) #[true, true, true, true, true, true, false, false, false, false, false, false, false, false, false] rfl rfl (any_of HT_.out (by kernel_rfl)) (fun _ _ _ h => h) (Or.inl ⟨by rfl, ?_⟩) ?_ ?_
                 rotate_left
                 ·intro w'
                  go_simp
                  with_reducible rfl
                 rotate_left
                 ·simp only [Act.put, List.setIfInBounds_toArray, List.set_cons_zero, List.set_cons_succ, i64_w, i32_w]
                  rfl
                 refine pure_ (i := 6) (N := some 58) (v := ?_) (a' := ?_) #[true, true, true, true, true, true, true, false, false, false, false, false, false, false, false] rfl rfl (any_of HT_.out (by kernel_rfl)) (fun _ _ _ h => h) (Or.inl ⟨by rfl, ?_⟩) ?_ ?_
                 rotate_left
                 ·intro w'
                  go_simp
                  with_reducible rfl
                 rotate_left
                 ·simp only [Act.put, List.setIfInBounds_toArray, List.set_cons_zero, List.set_cons_succ, i64_w, i32_w]
                  rfl
                 refine pure_ (i := 9) (N := some 61) (v := ?_) (a' := ?_) #[true, true, true, true, true, true, true, false, false, true, false, false, false, false, false] rfl rfl (any_of HT_.out (by kernel_rfl)) (fun _ _ _ h => h) (Or.inl ⟨by rfl, ?_⟩) ?_ ?_
                 rotate_left
                 ·intro w'
                  go_simp
                  with_reducible rfl
                 rotate_left
                 ·simp only [Act.put, List.setIfInBounds_toArray, List.set_cons_zero, List.set_cons_succ, i64_w, i32_w]
                  rfl
                 refine pure_ (i := 10) (N := some 62) (v := ?_) (a' := ?_) #[true, true, true, true, true, true, true, false, false, true, true, false, false, false, false] rfl rfl (any_of HT_.out (by kernel_rfl)) (fun _ _ _ h => h) (Or.inl ⟨by rfl, ?_⟩) ?_ ?_
                 rotate_left
                 ·intro w'
                  go_simp
                  with_reducible rfl
                 rotate_left
                 ·simp only [Act.put, List.setIfInBounds_toArray, List.set_cons_zero, List.set_cons_succ, i64_w, i32_w]
                  rfl
                 refine take_ (i := 7) (N := some 59) (v := ?_) (a' := ?_) #[true, true, true, true, true, true, true, true, false, true, true, false, false, false, false] rfl rfl (take_ofW HT_.out HW_.out (by kernel_rfl)) (fun _ _ _ h => h) (Or.inl ⟨by rfl, ?_⟩) hHeld ?_ ?_
                 rotate_left
                 ·rintro w' ⟨s0, s1⟩
                  go_simp
                  with_reducible rfl
                 rotate_left
                 ·simp only [Act.put, List.setIfInBounds_toArray, List.set_cons_zero, List.set_cons_succ, i64_w, i32_w]
                  rfl
                 refine pure_ (i := 8) (N := some 60) (v := ?_) (a' := ?_) #[true, true, true, true, true, true, true, true, true, true, true, false, false, false, false] rfl rfl (any_of HT_.out (by kernel_rfl)) (fun _ _ _ h => h) (Or.inl ⟨by rfl, ?_⟩) ?_ ?_
                 rotate_left
                 ·intro w'
                  go_simp
                  with_reducible rfl
                 rotate_left
                 ·simp only [Act.put, List.setIfInBounds_toArray, List.set_cons_zero, List.set_cons_succ, i64_w, i32_w]
                  rfl
                 refine take_ (i := 11) (N := some 63) (v := ?_) (a' := ?_) #[true, true, true, true, true, true, true, true, true, true, true, true, false, false, false] rfl rfl (take_ofW HT_.out HW_.out (by kernel_rfl)) (fun _ _ _ h => h) (Or.inl ⟨by rfl, ?_⟩) hHeld ?_ ?_
                 rotate_left
                 ·rintro w' ⟨s0, s1⟩
                  go_simp
                  with_reducible rfl
                 rotate_left
                 ·simp only [Act.put, List.setIfInBounds_toArray, List.set_cons_zero, List.set_cons_succ, i64_w, i32_w]
                  rfl
                 refine pure_ (i := 12) (N := some 64) (v := ?_) (a' := ?_) #[true, true, true, true, true, true, true, true, true, true, true, true, true, false, false] rfl rfl (any_of HT_.out (by kernel_rfl)) (fun _ _ _ h => h) (Or.inl ⟨by rfl, ?_⟩) ?_ ?_
                 rotate_left
                 ·intro w'
                  go_simp
                  with_reducible rfl
                 rotate_left
                 ·simp only [Act.put, List.setIfInBounds_toArray, List.set_cons_zero, List.set_cons_succ, i64_w, i32_w]
                  rfl
                 refine pure_ (i := 13) (N := some 65) (v := ?_) (a' := ?_) #[true, true, true, true, true, true, true, true, true, true, true, true, true, true, false] rfl rfl (any_of HT_.out (by kernel_rfl)) (fun _ _ _ h => h) (Or.inl ⟨by rfl, ?_⟩) ?_ ?_
                 rotate_left
                 ·intro w'
                  go_simp
                  with_reducible rfl
                 rotate_left
                 ·simp only [Act.put, List.setIfInBounds_toArray, List.set_cons_zero, List.set_cons_succ, i64_w, i32_w]
                  rfl
                 refine pure_ (i := 14) (N := some 66) (v := ?_) (a' := ?_) #[true, true, true, true, true, true, true, true, true, true, true, true, true, true, true] rfl rfl (any_of HT_.out (by kernel_rfl)) (fun _ _ _ h => h) (Or.inl ⟨by rfl, ?_⟩) ?_ ?_
                 rotate_left
                 ·intro w'
                  go_simp
                  with_reducible rfl
                 rotate_left
                 ·simp only [Act.put, List.setIfInBounds_toArray, List.set_cons_zero, List.set_cons_succ, i64_w, i32_w]
                  rfl
                 refine done_ (done_of HT_.out (by kernel_rfl)) ?_
                 obtain ⟨Ao25, co25, eo25⟩ := Kd.N_slice HO_12.out
                 subst eo25
                 try go_wp2
                 have n0_ := Aside0.mk (Kd.N_drew HO_11.out)
                 have n1_ := Aside0.mk (Kd.N_drew HO_12.out)
                 have n2_ := Aside0.mk (Kd.R_drew HO_13.out)
                 have n3_ := Aside0.mk (below_drew1 HB.out)
                 clear HO_11
                 clear HO_12
                 clear HO_13
                 clear HB
                 have HO_11 := n0_
                 have HO_12 := n1_
                 have HO_13 := n2_
                 have HB := n3_
                 clear n0_ n1_ n2_ n3_
                 obtain ⟨Ao27, co27, eo27⟩ := Kd.N_slice HO_11.out
                 (first | subst eo27 | (injection eo27 with f1_ f2_ f3_; have f4_ := f1_.symm; have f5_ := f3_.symm; clear f1_ f2_ f3_; subst f4_; subst f5_))
                 have p360 : 0 ≤ (x45_2 : Int) := of_decide_eq_true (by assumption)
                 have q360 : x45_2 < (t354.length : Int) := of_decide_eq_true (by assumption)
                 obtain ⟨ad360, A360_0, c360_0, e360, hx360_0, hl360_0, hi360_0⟩ := at_L3 (Kd.N_reads' HO_11.out).2.2 x45_2 p360 q360
                 cases e360
                 obtain ⟨ce360, hce360, hMe360, hcc360⟩ := Kd.N_get HO_11.out [] x45_2 p360 (by first | exact q360 | exact of_decide_eq_true (by assumption) | (have e_ := (Kd.N_reads' HO_11.out).1; omega))
                 obtain ⟨ua360_0, uc360_0, rfl, ul360_0, ge360_0⟩ := Kd.FK_slice_open hMe360
                 have hv360_0 := hcc360 0 _ rfl
                 rw [Nat.add_zero, show ((Kd.slice 3 (Kd.int .i64))).sz = 1 from rfl, Nat.mul_one] at hv360_0
                 replace hv360_0 := Option.some.inj (hv360_0.symm.trans hx360_0)
                 injection hv360_0 with hva_ hvn_ hvc_
                 rw [hva_] at ge360_0
                 rw [hvc_] at ul360_0
                 have HL360_0 := Aside0.mk (show Kd.V (Kd.int .i64) 3 _ w.heap.size _ _ (rd_L3 t354 x45_2) from Kd.V_mk ul360_0 ge360_0)
                 clear hva_ hvn_ hvc_ ge360_0 ul360_0
                 clear hcc360 hce360
                 have HR360_0 := Aside0.mk hi360_0
                 have HC360_0 := Aside0.mk hl360_0
                 clear hi360_0 hl360_0
                 replace p360 := eq_true p360
                 replace q360 := eq_true q360
                 have p367 : 0 ≤ (x45_2 : Int) := of_decide_eq_true (by assumption)
                 have q367 : x45_2 < (l1.length : Int) := of_decide_eq_true (by assumption)
                 obtain ⟨ad367, e367, hx367_0⟩ := Kd.at_string HR1.out x45_2 p367 q367
                 have hw367_0 := hx367_0
                 obtain rfl : ad358 = ad367 := (by injection e367)
                 replace hx367_0 := (HB.out.cell (World.block_lt_of_cell? w _ hx367_0)).trans hx367_0
                 replace p367 := eq_true p367
                 replace q367 := eq_true q367
                 refine start_ (n := 16) (S := fun w' => w'.cell? (ad360.add (x45_2).toNat) = some (.slice A360_0 (rd_L3 t354 x45_2).length c360_0) ∧ w'.cell? (ad358.add (x45_2).toNat) = some (.string (rdOf ByteArray.empty l1 x45_2))) (ds := []) #[false, false, false, false, false, false, false, false, false, false, false, false, false, false, false, false] (by kernel_rfl) rfl rfl ⟨hx360_0, ((HB.out.cell (World.block_lt_of_cell? w _ hw367_0)).trans hw367_0)⟩ (fun hHeld => ?_); refine with_tabW impl_Decode.tab13 impl_Decode.bits13 (fun HT_ HW_ => ?_)
                 generalize w23.drew = w26 at HO_11 HO_12 HO_13 HB HL360_0 HR360_0 hx360_0 hx367_0 hHeld ⊢
                 refine pure_ (i := 0) (N := some 67) (v := ?_) (a' := ?_) #[true, false, false, false, false, false, false, false, false, false, false, false, false, false, false, false] rfl rfl (any_of HT_.out (by kernel_rfl)) (fun _ _ _ h => h) (Or.inl ⟨by rfl, ?_⟩) ?_ ?_
                 rotate_left
                 ·intro w'
                  go_simp
                  with_reducible rfl
                 rotate_left
                 ·simp only [Act.put, List.setIfInBounds_toArray, List.set_cons_zero, List.set_cons_succ, i64_w, i32_w]
                  rfl
                 refine pure_ (i := 1) (N := some 68) (v := ?_) (a' := ?_) #[true, true, false, false, false, false, false, false, false, false, false, false, false, false, false, false] rfl rfl (any_of HT_.out (by kernel_rfl)) (fun _ _ _ h => h) (Or.inl ⟨by rfl, ?_⟩) ?_ ?_
                 rotate_left
                 ·intro w'
                  go_simp
                  with_reducible rfl
                 rotate_left
                 ·simp only [Act.put, List.setIfInBounds_toArray, List.set_cons_zero, List.set_cons_succ, i64_w, i32_w]
                  rfl
                 refine pure_ (i := 2) (N := some 69) (v := ?_) (a' := ?_) #[true, true, true, false, false, false, false, false, false, false, false, false, false, false, false, false] rfl rfl (any_of HT_.out (by kernel_rfl)) (fun _ _ _ h => h) (Or.inl ⟨by rfl, ?_⟩) ?_ ?_
                 rotate_left
                 ·intro w'
                  go_simp
                  with_reducible rfl
                 rotate_left
                 ·simp only [Act.put, List.setIfInBounds_toArray, List.set_cons_zero, List.set_cons_succ, i64_w, i32_w]
                  rfl
                 refine pure_ (i := 3) (N := some 70) (v := ?_) (a' := ?_) #[true, true, true, true, false, false, false, false, false, false, false, false, false, false, false, false] rfl rfl (any_of HT_.out (by kernel_rfl)) (fun _ _ _ h => h) (Or.inl ⟨by rfl, ?_⟩) ?_ ?_
                 rotate_left
                 ·intro w'
                  go_simp
                  with_reducible rfl
                 rotate_left
                 ·simp only [Act.put, List.setIfInBounds_toArray, List.set_cons_zero, List.set_cons_succ, i64_w, i32_w]
                  rfl
                 refine pure_ (i := 7) (N := some 74) (v := ?_) (a' := ?_) #[true, true, true, true, false, false, false, true, false, false, false, false, false, false, false, false] rfl rfl (any_of HT_.out (by kernel_rfl)) (fun _ _ _ h => h) (Or.inl ⟨by rfl, ?_⟩) ?_ ?_
                 rotate_left
                 ·intro w'
                  go_simp
                  with_reducible rfl
                 rotate_left
                 ·simp only [Act.put, List.setIfInBounds_toArray, List.set_cons_zero, List.set_cons_succ, i64_w, i32_w]
                  rfl
                 refine pure_ (i := 8) (N := some 75) (v := ?_) (a' := ?_) #[true, true, true, true, false, false, false, true, true, false, false, false, false, false, false, false] rfl rfl (any_of HT_.out (by kernel_rfl)) (fun _ _ _ h => h) (Or.inl ⟨by rfl, ?_⟩) ?_ ?_
                 rotate_left
                 ·intro w'
                  go_simp
                  with_reducible rfl
                 rotate_left
                 ·simp only [Act.put, List.setIfInBounds_toArray, List.set_cons_zero, List.set_cons_succ, i64_w, i32_w]
                  rfl
                 refine pure_ (i := 9) (N := some 76) (v := ?_) (a' := ?_) #[true, true, true, true, false, false, false, true, true, true, false, false, false, false, false, false] rfl rfl (any_of HT_.out (by kernel_rfl)) (fun _ _ _ h => h) (Or.inl ⟨by rfl, ?_⟩) ?_ ?_
                 rotate_left
                 ·intro w'
                  go_simp
                  with_reducible rfl
                 rotate_left
                 ·simp only [Act.put, List.setIfInBounds_toArray, List.set_cons_zero, List.set_cons_succ, i64_w, i32_w]
                  rfl
                 refine pure_ (i := 10) (N := some 77) (v := ?_) (a' := ?_) #[true, true, true, true, false, false, false, true, true, true, true, false, false, false, false, false] rfl rfl (any_of HT_.out (by kernel_rfl)) (fun _ _ _ h => h) (Or.inl ⟨by rfl, ?_⟩) ?_ ?_
                 rotate_left
                 ·intro w'
                  go_simp
                  with_reducible rfl
                 rotate_left
                 ·simp only [Act.put, List.setIfInBounds_toArray, List.set_cons_zero, List.set_cons_succ, i64_w, i32_w]
                  rfl
                 refine take_ (i := 4) (N := some 71) (v := ?_) (a' := ?_) #[true, true, true, true, true, false, false, true, true, true, true, false, false, false, false, false] rfl rfl (take_ofW HT_.out HW_.out (by kernel_rfl)) (fun _ _ _ h => h) (Or.inl ⟨by rfl, ?_⟩) hHeld ?_ ?_
                 rotate_left
                 ·rintro w' ⟨s0, s1⟩
                  go_simp
                  with_reducible rfl
                 rotate_left
                 ·simp only [Act.put, List.setIfInBounds_toArray, List.set_cons_zero, List.set_cons_succ, i64_w, i32_w]
                  rfl
                 refine take_ (i := 11) (N := some 78) (v := ?_) (a' := ?_) #[true, true, true, true, true, false, false, true, true, true, true, true, false, false, false, false] rfl rfl (take_ofW HT_.out HW_.out (by kernel_rfl)) (fun _ _ _ h => h) (Or.inl ⟨by rfl, ?_⟩) hHeld ?_ ?_
                 rotate_left
                 ·rintro w' ⟨s0, s1⟩
                  go_simp
                  with_reducible rfl
                 rotate_left
                 ·simp only [Act.put, List.setIfInBounds_toArray, List.set_cons_zero, List.set_cons_succ, i64_w, i32_w]
                  rfl
                 refine join_ (σ := Value × Value × Value) 3 #[true, true, true, true, true, true, true, true, true, true, true, true, true, false, false, false] (fun s_ => [(72, s_.1), (73, s_.2.1), (79, s_.2.2)]) (fun s_ w' => (w'.cell? (ad360.add (x45_2).toNat) = some (.slice A360_0 (rd_L3 t354 x45_2).length c360_0) ∧ w'.cell? (ad358.add (x45_2).toNat) = some (.string (rdOf ByteArray.empty l1 x45_2))) ∧ (Kd.V (Kd.int .i64) 3 w' w.heap.size (fun k_ => some k_ ≠ (s_.1 : Value).ownBlock ∧ some k_ ≠ (s_.2.1 : Value).ownBlock ∧ some k_ ≠ (s_.2.2 : Value).ownBlock ∧ some k_ ≠ (.slice (some ad360) t354.length co27 : Value).ownBlock ∧ some k_ ≠ (.slice (some ad359) x13_2.length co24 : Value).ownBlock) (.slice A360_0 (rd_L3 t354 x45_2).length c360_0) (rd_L3 t354 x45_2)) ∧ (Kd.N (Kd.slice 3 (Kd.int .i64)) 32 w' w.heap.size (fun k_ => some k_ ≠ (s_.2.1 : Value).ownBlock ∧ some k_ ≠ (s_.2.2 : Value).ownBlock ∧ some k_ ≠ (.slice (some ad360) t354.length co27 : Value).ownBlock ∧ some k_ ≠ (.slice (some ad359) x13_2.length co24 : Value).ownBlock) s_.1 y361) ∧ (Kd.N (Kd.slice 3 (Kd.int .i64)) 32 w' w.heap.size (fun k_ => some k_ ≠ (s_.2.2 : Value).ownBlock ∧ some k_ ≠ (.slice (some ad360) t354.length co27 : Value).ownBlock ∧ some k_ ≠ (.slice (some ad359) x13_2.length co24 : Value).ownBlock) s_.2.1 y364) ∧ (Kd.R Kd.string 9 w' w.heap.size (fun k_ => some k_ ≠ (.slice (some ad359) x13_2.length co24 : Value).ownBlock) s_.2.2 y368) ∧ (Kd.N (Kd.slice 3 (Kd.int .i64)) 32 w' w.heap.size (fun k_ => some k_ ≠ (s_.1 : Value).ownBlock ∧ some k_ ≠ (s_.2.1 : Value).ownBlock ∧ some k_ ≠ (s_.2.2 : Value).ownBlock ∧ some k_ ≠ (.slice (some ad359) x13_2.length co24 : Value).ownBlock) (.slice (some ad360) t354.length co27) t354) ∧ (Kd.R Kd.string 9 w' w.heap.size (fun k_ => some k_ ≠ (s_.2.2 : Value).ownBlock) (.slice (some ad359) x13_2.length co24) x13_2) ∧ (Below w.heap.size w w')) ?_ ?_
                 rotate_left
                 ·intro hCont
                  refine two_ (i := 5) (j := 12) (Ni := some 72) (Nj := some 79) #[true, true, true, true, true, true, false, true, true, true, true, true, false, false, false, false] #[true, true, true, true, true, false, false, true, true, true, true, true, true, false, false, false] rfl rfl rfl rfl (two_of HT_.out (by kernel_rfl)) (by decide) (by decide) (fun K hK => ?_) (fun K hK => ?_)
                  ·skip
                   refine Kd.N_lit_step (Kd.slice 3 (Kd.int .i64)) _ 32 ?hg (N' := 72) ?hd (xs := ([rd_L3 t354 x45_2] : List (List Int))) (inner := [.slice A360_0 (rd_L3 t354 x45_2).length c360_0]) (ok := (fun k_ => some k_ ≠ (.slice (some ad360) t354.length co27 : Value).ownBlock ∧ some k_ ≠ (.slice Ao25 x12_2.length co25 : Value).ownBlock ∧ some k_ ≠ (.slice (some ad359) x13_2.length co24 : Value).ownBlock)) (okp := (fun k_ => some k_ ≠ (.slice (some ad360) t354.length co27 : Value).ownBlock ∧ some k_ ≠ (.slice Ao25 x12_2.length co25 : Value).ownBlock ∧ some k_ ≠ (.slice (some ad359) x13_2.length co24 : Value).ownBlock)) ?hr ?hp (fun _ hk => hk) ((show ∀ k_, w26.heap.size ≤ k_ → (fun k_ => some k_ ≠ (.slice (some ad360) t354.length co27 : Value).ownBlock ∧ some k_ ≠ (.slice Ao25 x12_2.length co25 : Value).ownBlock ∧ some k_ ≠ (.slice (some ad359) x13_2.length co24 : Value).ownBlock) k_ from fun k_ hk => ⟨Kd.fresh' (Kd.N_lt (by exact HO_11.out)) k_ hk, Kd.fresh' (Kd.N_lt (by exact HO_12.out)) k_ hk, Kd.fresh' (Kd.R_lt (by exact HO_13.out)) k_ hk⟩) _ (Nat.le_refl _)) (Below.refl _ _) (Nat.le_refl _) (by simp) ?_; (case hd => rfl); (case hg => rfl); (case hr => first | (go_simp; done) | (go_simp; rfl)); (case hp => exact (Reps.one (show Kd.FK (Kd.slice 3 (Kd.int .i64)) _ _ (rd_L3 t354 x45_2) [.slice A360_0 (rd_L3 t354 x45_2).length c360_0] from (Kd.FK_slice_mk (Kd.V_reads' (Kd.V_mono (ok' := (fun k_ => some k_ ≠ (.slice (some ad360) t354.length co27 : Value).ownBlock ∧ some k_ ≠ (.slice Ao25 x12_2.length co25 : Value).ownBlock ∧ some k_ ≠ (.slice (some ad359) x13_2.length co24 : Value).ownBlock)) (HL360_0.out) (fun k_ hk => ⟨hk.2, ⟨hk.1.1, hk.1.2⟩⟩))).2.1 (Kd.V_F (Kd.V_mono (ok' := (fun k_ => some k_ ≠ (.slice (some ad360) t354.length co27 : Value).ownBlock ∧ some k_ ≠ (.slice Ao25 x12_2.length co25 : Value).ownBlock ∧ some k_ ≠ (.slice (some ad359) x13_2.length co24 : Value).ownBlock)) (HL360_0.out) (fun k_ hk => ⟨hk.2, ⟨hk.1.1, hk.1.2⟩⟩))))) (Reps.none _ _)))
                   intro v362 w28 ho29 hb hg_ hnew_
                   have HS0_ := (hb.cell (World.block_lt_of_cell? _ _ (hHeld.1))).trans (hHeld.1)
                   clear hg_ hnew_
                   (first | rw [← Ny361.out] at ho29 | (simp only [Int.reduceToNat] at ho29; rw [← Ny361.out] at ho29))
                   have n0_ := Aside0.mk (Kd.N_elder' (by exact HO_11.out) (Kd.N_base ho29) hb)
                   have n1_ := Aside0.mk (Kd.N_elder' (by exact HO_12.out) (Kd.N_base ho29) hb)
                   have n2_ := Aside0.mk (Kd.R_below (by exact HO_13.out) hb)
                   have n3_ := Aside0.mk (Kd.V_elder' (by exact HL360_0.out) (Kd.N_base ho29) hb)
                   have n4_ := Aside0.mk (Kd.N_lower ho29 (below_size (by repeat (first | exact HB.out | apply below_alloc | apply pw_below_drewN | apply below_drew1))))
                   have n5_ := Aside0.mk (Kd.C_below (by repeat (first | (with_reducible exact HR360_0.out) | (with_reducible refine Kd.C_alloc ?_ _) | (with_reducible refine Kd.C_drewN ?_ _) | (with_reducible refine Kd.C_drew ?_) | exact HR360_0.out)) hb)
                   have n6_ := Aside0.mk (below_step (by repeat (first | exact HB.out | apply below_alloc | apply pw_below_drewN | apply below_drew1)) hb)
                   clear HO_11
                   clear HO_12
                   clear HO_13
                   clear HL360_0
                   clear HR360_0
                   clear HB
                   have HO_11 := n0_
                   have HO_12 := n1_
                   have HO_13 := n2_
                   have HL360_0 := n3_
                   have HO363 := n4_
                   have HR360_0 := n5_
                   have HB := n6_
                   clear n0_ n1_ n2_ n3_ n4_ n5_ n6_
                   clear hb ho29
                   obtain ⟨Ao31, co31, eo31⟩ := Kd.N_slice HO363.out
                   (first | subst eo31 | (injection eo31 with f1_ f2_ f3_; have f4_ := f1_.symm; have f5_ := f3_.symm; clear f1_ f2_ f3_; subst f4_; subst f5_))
                   refine hK.out _ _ ⟨HS0_, ((HB.out.cell (World.block_lt_of_cell? w _ hw367_0)).trans hw367_0)⟩ (fun hHeld => ?_)
                   clear hK K
                   refine norm_ (a' := ?_) ?_ ?_
                   rotate_left
                   ·show Act.put _ (some 72) _ = _
                    simp only [Act.put, List.setIfInBounds_toArray, List.set_cons_zero, List.set_cons_succ, i64_w, i32_w]
                    rfl
                   refine two_ (i := 6) (j := 12) (Ni := some 73) (Nj := some 79) #[true, true, true, true, true, true, true, true, true, true, true, true, false, false, false, false] #[true, true, true, true, true, true, false, true, true, true, true, true, true, false, false, false] rfl rfl rfl rfl (two_of HT_.out (by kernel_rfl)) (by decide) (by decide) (fun K hK => ?_) (fun K hK => ?_)
                   ·skip
                    refine Kd.N_append_rows_step (Kd.slice 3 (Kd.int .i64)) (w0 := w) w.heap.size (by rfl) (.tmp 67) (.tmp 72) 49 32 (.slice none 0 0) 24 rfl Try.underlying49 info32 rfl (by decide) (by omega) (.slice Ao25 x12_2.length co25) x12_2 y361 _ _ _ (fun k_ => some k_ ≠ (.slice (some ad360) t354.length co27 : Value).ownBlock ∧ some k_ ≠ (.slice (some ad359) x13_2.length co24 : Value).ownBlock) (fun k_ => ((fun k_ => some k_ ≠ (.slice (some ad360) t354.length co27 : Value).ownBlock ∧ some k_ ≠ (.slice (some ad359) x13_2.length co24 : Value).ownBlock)) k_ ∧ some k_ ≠ (.slice Ao25 x12_2.length co25 : Value).ownBlock) rfl rfl ?aO ?aR (fun _ hk => hk) ?aF ?aB ?aS ?aL ?_
                    (case aR => exact (by skip; exact Kd.N_F (Kd.N_mono (ok' := (fun k_ => ((fun k_ => some k_ ≠ (.slice (some ad360) t354.length co27 : Value).ownBlock ∧ some k_ ≠ (.slice (some ad359) x13_2.length co24 : Value).ownBlock)) k_ ∧ some k_ ≠ (.slice Ao25 x12_2.length co25 : Value).ownBlock)) (HO363.out) (fun k_ hk => ⟨⟨hk.1, hk.2.2⟩, hk.2.1⟩))))
                    (case aB => exact (by repeat (first | exact HB.out | apply below_alloc | apply pw_below_drewN | apply below_drew1)))
                    (case aF => exact (fun k_ hk => ⟨Kd.fresh' (Kd.N_lt (by exact HO_11.out)) k_ hk, Kd.fresh' (Kd.R_lt (by exact HO_13.out)) k_ hk⟩))
                    (case aO => exact (by exact Kd.N_mono HO_12.out (fun _ hk => ⟨hk.1.1, hk.1.2⟩)))
                    (case aS => exact (below_size (by repeat (first | exact HB.out | apply below_alloc | apply pw_below_drewN | apply below_drew1))))
                    (case aL => have := LMc21.out; omega)
                    intro v365 w30 ho hb hg hat
                    have HS0_ := cell_grown hg (hHeld.1) (by have h_ := HO_11.out.1 _ rfl; first | (rw [add_block]; first | exact h_ | exact h_.1 | exact h_.2 | exact h_.1.1 | exact h_.1.2 | exact h_.2.1 | exact h_.2.2 | exact h_.1.1.1 | exact h_.1.1.2 | exact h_.1.2.1 | exact h_.1.2.2 | exact h_.2.1.1 | exact h_.2.1.2 | exact h_.2.2.1 | exact h_.2.2.2 | exact h_.1.1.1.1 | exact h_.1.1.1.2 | exact h_.1.1.2.1 | exact h_.1.1.2.2 | exact h_.1.2.1.1 | exact h_.1.2.1.2 | exact h_.1.2.2.1 | exact h_.1.2.2.2 | exact h_.2.1.1.1 | exact h_.2.1.1.2 | exact h_.2.1.2.1 | exact h_.2.1.2.2 | exact h_.2.2.1.1 | exact h_.2.2.1.2 | exact h_.2.2.2.1 | exact h_.2.2.2.2) | (show some (Addr.add _ _).block ≠ _; rw [add_block]; first | exact h_ | exact h_.1 | exact h_.2 | exact h_.1.1 | exact h_.1.2 | exact h_.2.1 | exact h_.2.2 | exact h_.1.1.1 | exact h_.1.1.2 | exact h_.1.2.1 | exact h_.1.2.2 | exact h_.2.1.1 | exact h_.2.1.2 | exact h_.2.2.1 | exact h_.2.2.2 | exact h_.1.1.1.1 | exact h_.1.1.1.2 | exact h_.1.1.2.1 | exact h_.1.1.2.2 | exact h_.1.2.1.1 | exact h_.1.2.1.2 | exact h_.1.2.2.1 | exact h_.1.2.2.2 | exact h_.2.1.1.1 | exact h_.2.1.1.2 | exact h_.2.1.2.1 | exact h_.2.1.2.2 | exact h_.2.2.1.1 | exact h_.2.2.1.2 | exact h_.2.2.2.1 | exact h_.2.2.2.2) | (first | exact h_ | exact h_.1 | exact h_.2 | exact h_.1.1 | exact h_.1.2 | exact h_.2.1 | exact h_.2.2 | exact h_.1.1.1 | exact h_.1.1.2 | exact h_.1.2.1 | exact h_.1.2.2 | exact h_.2.1.1 | exact h_.2.1.2 | exact h_.2.2.1 | exact h_.2.2.2 | exact h_.1.1.1.1 | exact h_.1.1.1.2 | exact h_.1.1.2.1 | exact h_.1.1.2.2 | exact h_.1.2.1.1 | exact h_.1.2.1.2 | exact h_.1.2.2.1 | exact h_.1.2.2.2 | exact h_.2.1.1.1 | exact h_.2.1.1.2 | exact h_.2.1.2.1 | exact h_.2.1.2.2 | exact h_.2.2.1.1 | exact h_.2.2.1.2 | exact h_.2.2.2.1 | exact h_.2.2.2.2))
                    rw [← Ny364.out] at ho
                    have n0_ := Aside0.mk (Kd.N_afterv (ok := (fun k_ => some k_ ≠ (.slice (some ad359) x13_2.length co24 : Value).ownBlock ∧ some k_ ≠ (.slice Ao31 y361.length co31 : Value).ownBlock)) (by exact Kd.N_mono HO_11.out (fun _ hk => ⟨⟨hk.1.2, hk.2⟩, hk.1.1⟩)) hg hat)
                    have n1_ := Aside0.mk (Kd.R_over' (by exact HO_13.out) (Kd.N_typed (by exact HO_12.out)) (by decide) hg)
                    have n2_ := Aside0.mk (Kd.V_afterv (ok := (fun k_ => some k_ ≠ (.slice (some ad360) t354.length co27 : Value).ownBlock ∧ some k_ ≠ (.slice (some ad359) x13_2.length co24 : Value).ownBlock ∧ some k_ ≠ (.slice Ao31 y361.length co31 : Value).ownBlock)) (by exact Kd.V_mono HL360_0.out (fun _ hk => ⟨⟨hk.1.2, ⟨hk.1.1.2, hk.2⟩⟩, hk.1.1.1⟩)) hg hat)
                    have n3_ := Aside0.mk (Kd.N_afterv (ok := (fun k_ => some k_ ≠ (.slice (some ad360) t354.length co27 : Value).ownBlock ∧ some k_ ≠ (.slice (some ad359) x13_2.length co24 : Value).ownBlock)) (by exact Kd.N_mono HO363.out (fun _ hk => ⟨⟨hk.1, hk.2.2⟩, hk.2.1⟩)) hg hat)
                    have n4_ := Aside0.mk (hb)
                    have n5_ := Aside0.mk (ho)
                    clear HO_11
                    clear HO_13
                    clear HL360_0
                    clear HO363
                    clear HB
                    clear HO_12
                    have HO_11 := n0_
                    have HO_13 := n1_
                    have HL360_0 := n2_
                    have HO363 := n3_
                    have HB := n4_
                    have HO366 := n5_
                    clear n0_ n1_ n2_ n3_ n4_ n5_
                    clear ho hb hg hat
                    refine hK.out _ _ ⟨HS0_, ((HB.out.cell (World.block_lt_of_cell? w _ hw367_0)).trans hw367_0)⟩ (fun hHeld => ?_)
                    clear hK K
                    refine norm_ (a' := ?_) ?_ ?_
                    rotate_left
                    ·show Act.put _ (some 73) _ = _
                     simp only [Act.put, List.setIfInBounds_toArray, List.set_cons_zero, List.set_cons_succ, i64_w, i32_w]
                     rfl
                    refine one_ (i := 12) (N := some 79) #[true, true, true, true, true, true, true, true, true, true, true, true, true, false, false, false] rfl rfl (one_of HT_.out (by kernel_rfl)) (by decide) (fun K hK => ?_)
                    refine Kd.R_lit_step Kd.string _ 9 ?hg (N := 79) ?hd (xs := ([rdOf ByteArray.empty l1 x45_2] : List ByteArray)) (inner := [.string (rdOf ByteArray.empty l1 x45_2)]) (ok := fun _ => True) (okp := fun _ => True) ?hr ?hp (fun _ hk => hk) trivial (Below.refl _ _) (Nat.le_refl _) (by simp) ?_; (case hd => rfl); (case hg => rfl); (case hr => first | (go_simp; done) | (go_simp; rfl)); (case hp => exact (Reps.one (show Kd.M Kd.string _ _ _ (rdOf ByteArray.empty l1 x45_2) [.string (rdOf ByteArray.empty l1 x45_2)] from rfl) (Reps.none _ _)))
                    intro v369 w32 ho33 hb hg_ hnew_
                    have HS0_ := (hb.cell (World.block_lt_of_cell? _ _ (hHeld.1))).trans (hHeld.1)
                    clear hg_ hnew_
                    (first | rw [← Ny368.out] at ho33 | (simp only [Int.reduceToNat] at ho33; rw [← Ny368.out] at ho33))
                    have n0_ := Aside0.mk (Kd.N_elder' (by exact HO_11.out) (Kd.R_base ho33) hb)
                    have n1_ := Aside0.mk (Kd.R_elder' (by exact HO_13.out) (Kd.R_base ho33) hb)
                    have n2_ := Aside0.mk (Kd.V_elder' (by exact HL360_0.out) (Kd.R_base ho33) hb)
                    have n3_ := Aside0.mk (Kd.N_elder' (by exact HO363.out) (Kd.R_base ho33) hb)
                    have n4_ := Aside0.mk (Kd.N_elder' (by exact HO366.out) (Kd.R_base ho33) hb)
                    have n5_ := Aside0.mk (Kd.R_lower (Kd.R_new' ho33 (Kd.R_lt (by exact HO_13.out))) (below_size (by repeat (first | exact HB.out | apply below_alloc | apply pw_below_drewN | apply below_drew1))))
                    have n6_ := Aside0.mk (below_step (by repeat (first | exact HB.out | apply below_alloc | apply pw_below_drewN | apply below_drew1)) hb)
                    clear HO_11
                    clear HO_13
                    clear HL360_0
                    clear HO363
                    clear HO366
                    clear HB
                    have HO_11 := n0_
                    have HO_13 := n1_
                    have HL360_0 := n2_
                    have HO363 := n3_
                    have HO366 := n4_
                    have HO370 := n5_
                    have HB := n6_
                    clear n0_ n1_ n2_ n3_ n4_ n5_ n6_
                    clear hb ho33
                    refine hK.out _ _ ⟨HS0_, ((HB.out.cell (World.block_lt_of_cell? w _ hw367_0)).trans hw367_0)⟩ (fun hHeld => ?_)
                    clear hK K
                    refine norm_ (a' := ?_) ?_ ?_
                    rotate_left
                    ·show Act.put _ (some 79) _ = _
                     simp only [Act.put, List.setIfInBounds_toArray, List.set_cons_zero, List.set_cons_succ, i64_w, i32_w]
                     rfl
                    exact norm_ (by simp only [putAll, Act.put, List.setIfInBounds_toArray, List.set_cons_zero, List.set_cons_succ]) (hCont (.slice Ao31 y361.length co31, v365, v369) _ ⟨hHeld, (by exact Kd.V_mono HL360_0.out (fun _ hk => ⟨hk.1.1.2.2, ⟨hk.1.2, ⟨hk.2, ⟨hk.1.1.1, hk.1.1.2.1⟩⟩⟩⟩)), (by exact Kd.N_mono HO363.out (fun _ hk => ⟨hk.1.2, ⟨hk.2, ⟨hk.1.1.1, hk.1.1.2⟩⟩⟩)), (by exact Kd.N_mono HO366.out (fun _ hk => ⟨hk.2, ⟨hk.1.1, hk.1.2⟩⟩)), (by exact Kd.R_mono HO370.out (fun _ hk => hk.2)), (by exact Kd.N_mono HO_11.out (fun _ hk => ⟨hk.1.1.2, ⟨hk.1.2, ⟨hk.2, hk.1.1.1⟩⟩⟩)), (by exact Kd.R_mono HO_13.out (fun _ hk => hk.2)), (by repeat (first | exact HB.out | apply below_alloc | apply pw_below_drewN | apply below_drew1))⟩)
                   ·skip
                    refine Kd.R_lit_step Kd.string _ 9 ?hg (N := 79) ?hd (xs := ([rdOf ByteArray.empty l1 x45_2] : List ByteArray)) (inner := [.string (rdOf ByteArray.empty l1 x45_2)]) (ok := fun _ => True) (okp := fun _ => True) ?hr ?hp (fun _ hk => hk) trivial (Below.refl _ _) (Nat.le_refl _) (by simp) ?_; (case hd => rfl); (case hg => rfl); (case hr => first | (go_simp; done) | (go_simp; rfl)); (case hp => exact (Reps.one (show Kd.M Kd.string _ _ _ (rdOf ByteArray.empty l1 x45_2) [.string (rdOf ByteArray.empty l1 x45_2)] from rfl) (Reps.none _ _)))
                    intro v369 w30 ho31 hb hg_ hnew_
                    have HS0_ := (hb.cell (World.block_lt_of_cell? _ _ (hHeld.1))).trans (hHeld.1)
                    clear hg_ hnew_
                    (first | rw [← Ny368.out] at ho31 | (simp only [Int.reduceToNat] at ho31; rw [← Ny368.out] at ho31))
                    have n0_ := Aside0.mk (Kd.N_elder' (by exact HO_11.out) (Kd.R_base ho31) hb)
                    have n1_ := Aside0.mk (Kd.N_elder' (by exact HO_12.out) (Kd.R_base ho31) hb)
                    have n2_ := Aside0.mk (Kd.R_elder' (by exact HO_13.out) (Kd.R_base ho31) hb)
                    have n3_ := Aside0.mk (Kd.V_elder' (by exact HL360_0.out) (Kd.R_base ho31) hb)
                    have n4_ := Aside0.mk (Kd.N_elder' (by exact HO363.out) (Kd.R_base ho31) hb)
                    have n5_ := Aside0.mk (Kd.R_lower (Kd.R_new' ho31 (Kd.R_lt (by exact HO_13.out))) (below_size (by repeat (first | exact HB.out | apply below_alloc | apply pw_below_drewN | apply below_drew1))))
                    have n6_ := Aside0.mk (Kd.C_below (by repeat (first | (with_reducible exact HR360_0.out) | (with_reducible refine Kd.C_alloc ?_ _) | (with_reducible refine Kd.C_drewN ?_ _) | (with_reducible refine Kd.C_drew ?_) | exact HR360_0.out)) hb)
                    have n7_ := Aside0.mk (below_step (by repeat (first | exact HB.out | apply below_alloc | apply pw_below_drewN | apply below_drew1)) hb)
                    clear HO_11
                    clear HO_12
                    clear HO_13
                    clear HL360_0
                    clear HO363
                    clear HR360_0
                    clear HB
                    have HO_11 := n0_
                    have HO_12 := n1_
                    have HO_13 := n2_
                    have HL360_0 := n3_
                    have HO363 := n4_
                    have HO370 := n5_
                    have HR360_0 := n6_
                    have HB := n7_
                    clear n0_ n1_ n2_ n3_ n4_ n5_ n6_ n7_
                    clear hb ho31
                    obtain ⟨Ao33, co33, eo33⟩ := Kd.N_slice HO363.out
                    (first | subst eo33 | (injection eo33 with f1_ f2_ f3_; have f4_ := f1_.symm; have f5_ := f3_.symm; clear f1_ f2_ f3_; subst f4_; subst f5_))
                    refine hK.out _ _ ⟨HS0_, ((HB.out.cell (World.block_lt_of_cell? w _ hw367_0)).trans hw367_0)⟩ (fun hHeld => ?_)
                    clear hK K
                    refine norm_ (a' := ?_) ?_ ?_
                    rotate_left
                    ·show Act.put _ (some 79) _ = _
                     simp only [Act.put, List.setIfInBounds_toArray, List.set_cons_zero, List.set_cons_succ, i64_w, i32_w]
                     rfl
                    refine one_ (i := 6) (N := some 73) #[true, true, true, true, true, true, true, true, true, true, true, true, true, false, false, false] rfl rfl (one_of HT_.out (by kernel_rfl)) (by decide) (fun K hK => ?_)
                    refine Kd.N_append_rows_step (Kd.slice 3 (Kd.int .i64)) (w0 := w) w.heap.size (by rfl) (.tmp 67) (.tmp 72) 49 32 (.slice none 0 0) 24 rfl Try.underlying49 info32 rfl (by decide) (by omega) (.slice Ao25 x12_2.length co25) x12_2 y361 _ _ _ (fun k_ => some k_ ≠ (.slice (some ad360) t354.length co27 : Value).ownBlock ∧ some k_ ≠ (.slice (some ad359) x13_2.length co24 : Value).ownBlock ∧ some k_ ≠ (v369 : Value).ownBlock) (fun k_ => ((fun k_ => some k_ ≠ (.slice (some ad360) t354.length co27 : Value).ownBlock ∧ some k_ ≠ (.slice (some ad359) x13_2.length co24 : Value).ownBlock ∧ some k_ ≠ (v369 : Value).ownBlock)) k_ ∧ some k_ ≠ (.slice Ao25 x12_2.length co25 : Value).ownBlock) rfl rfl ?aO ?aR (fun _ hk => hk) ?aF ?aB ?aS ?aL ?_
                    (case aR => exact (by skip; exact Kd.N_F (Kd.N_mono (ok' := (fun k_ => ((fun k_ => some k_ ≠ (.slice (some ad360) t354.length co27 : Value).ownBlock ∧ some k_ ≠ (.slice (some ad359) x13_2.length co24 : Value).ownBlock ∧ some k_ ≠ (v369 : Value).ownBlock)) k_ ∧ some k_ ≠ (.slice Ao25 x12_2.length co25 : Value).ownBlock)) (HO363.out) (fun k_ hk => ⟨⟨hk.1.1, ⟨hk.1.2.2, hk.2⟩⟩, hk.1.2.1⟩))))
                    (case aB => exact (by repeat (first | exact HB.out | apply below_alloc | apply pw_below_drewN | apply below_drew1)))
                    (case aF => exact (fun k_ hk => ⟨Kd.fresh' (Kd.N_lt (by exact HO_11.out)) k_ hk, Kd.fresh' (Kd.R_lt (by exact HO_13.out)) k_ hk, Kd.fresh' (Kd.R_lt (by exact HO370.out)) k_ hk⟩))
                    (case aO => exact (by exact Kd.N_mono HO_12.out (fun _ hk => ⟨hk.1.1.1, ⟨hk.1.1.2, hk.2⟩⟩)))
                    (case aS => exact (below_size (by repeat (first | exact HB.out | apply below_alloc | apply pw_below_drewN | apply below_drew1))))
                    (case aL => have := LMc21.out; omega)
                    intro v365 w32 ho hb hg hat
                    have HS0_ := cell_grown hg (hHeld.1) (by have h_ := HO_11.out.1 _ rfl; first | (rw [add_block]; first | exact h_ | exact h_.1 | exact h_.2 | exact h_.1.1 | exact h_.1.2 | exact h_.2.1 | exact h_.2.2 | exact h_.1.1.1 | exact h_.1.1.2 | exact h_.1.2.1 | exact h_.1.2.2 | exact h_.2.1.1 | exact h_.2.1.2 | exact h_.2.2.1 | exact h_.2.2.2 | exact h_.1.1.1.1 | exact h_.1.1.1.2 | exact h_.1.1.2.1 | exact h_.1.1.2.2 | exact h_.1.2.1.1 | exact h_.1.2.1.2 | exact h_.1.2.2.1 | exact h_.1.2.2.2 | exact h_.2.1.1.1 | exact h_.2.1.1.2 | exact h_.2.1.2.1 | exact h_.2.1.2.2 | exact h_.2.2.1.1 | exact h_.2.2.1.2 | exact h_.2.2.2.1 | exact h_.2.2.2.2) | (show some (Addr.add _ _).block ≠ _; rw [add_block]; first | exact h_ | exact h_.1 | exact h_.2 | exact h_.1.1 | exact h_.1.2 | exact h_.2.1 | exact h_.2.2 | exact h_.1.1.1 | exact h_.1.1.2 | exact h_.1.2.1 | exact h_.1.2.2 | exact h_.2.1.1 | exact h_.2.1.2 | exact h_.2.2.1 | exact h_.2.2.2 | exact h_.1.1.1.1 | exact h_.1.1.1.2 | exact h_.1.1.2.1 | exact h_.1.1.2.2 | exact h_.1.2.1.1 | exact h_.1.2.1.2 | exact h_.1.2.2.1 | exact h_.1.2.2.2 | exact h_.2.1.1.1 | exact h_.2.1.1.2 | exact h_.2.1.2.1 | exact h_.2.1.2.2 | exact h_.2.2.1.1 | exact h_.2.2.1.2 | exact h_.2.2.2.1 | exact h_.2.2.2.2) | (first | exact h_ | exact h_.1 | exact h_.2 | exact h_.1.1 | exact h_.1.2 | exact h_.2.1 | exact h_.2.2 | exact h_.1.1.1 | exact h_.1.1.2 | exact h_.1.2.1 | exact h_.1.2.2 | exact h_.2.1.1 | exact h_.2.1.2 | exact h_.2.2.1 | exact h_.2.2.2 | exact h_.1.1.1.1 | exact h_.1.1.1.2 | exact h_.1.1.2.1 | exact h_.1.1.2.2 | exact h_.1.2.1.1 | exact h_.1.2.1.2 | exact h_.1.2.2.1 | exact h_.1.2.2.2 | exact h_.2.1.1.1 | exact h_.2.1.1.2 | exact h_.2.1.2.1 | exact h_.2.1.2.2 | exact h_.2.2.1.1 | exact h_.2.2.1.2 | exact h_.2.2.2.1 | exact h_.2.2.2.2))
                    rw [← Ny364.out] at ho
                    have n0_ := Aside0.mk (Kd.N_afterv (ok := (fun k_ => some k_ ≠ (.slice (some ad359) x13_2.length co24 : Value).ownBlock ∧ some k_ ≠ (.slice Ao33 y361.length co33 : Value).ownBlock ∧ some k_ ≠ (v369 : Value).ownBlock)) (by exact Kd.N_mono HO_11.out (fun _ hk => ⟨⟨hk.1.1.2, ⟨hk.1.2, hk.2⟩⟩, hk.1.1.1⟩)) hg hat)
                    have n1_ := Aside0.mk (Kd.R_over' (by exact HO_13.out) (Kd.N_typed (by exact HO_12.out)) (by decide) hg)
                    have n2_ := Aside0.mk (Kd.V_afterv (ok := (fun k_ => some k_ ≠ (.slice (some ad360) t354.length co27 : Value).ownBlock ∧ some k_ ≠ (.slice (some ad359) x13_2.length co24 : Value).ownBlock ∧ some k_ ≠ (.slice Ao33 y361.length co33 : Value).ownBlock ∧ some k_ ≠ (v369 : Value).ownBlock)) (by exact Kd.V_mono HL360_0.out (fun _ hk => ⟨⟨hk.1.1.2, ⟨hk.1.1.1.2, ⟨hk.1.2, hk.2⟩⟩⟩, hk.1.1.1.1⟩)) hg hat)
                    have n3_ := Aside0.mk (Kd.N_afterv (ok := (fun k_ => some k_ ≠ (.slice (some ad360) t354.length co27 : Value).ownBlock ∧ some k_ ≠ (.slice (some ad359) x13_2.length co24 : Value).ownBlock ∧ some k_ ≠ (v369 : Value).ownBlock)) (by exact Kd.N_mono HO363.out (fun _ hk => ⟨⟨hk.1.1, ⟨hk.1.2.2, hk.2⟩⟩, hk.1.2.1⟩)) hg hat)
                    have n4_ := Aside0.mk (Kd.R_over' (by exact HO370.out) (Kd.N_typed (by exact HO_12.out)) (by decide) hg)
                    have n5_ := Aside0.mk (hb)
                    have n6_ := Aside0.mk (ho)
                    clear HO_11
                    clear HO_13
                    clear HL360_0
                    clear HO363
                    clear HO370
                    clear HB
                    clear HO_12
                    have HO_11 := n0_
                    have HO_13 := n1_
                    have HL360_0 := n2_
                    have HO363 := n3_
                    have HO370 := n4_
                    have HB := n5_
                    have HO366 := n6_
                    clear n0_ n1_ n2_ n3_ n4_ n5_ n6_
                    clear ho hb hg hat
                    refine hK.out _ _ ⟨HS0_, ((HB.out.cell (World.block_lt_of_cell? w _ hw367_0)).trans hw367_0)⟩ (fun hHeld => ?_)
                    clear hK K
                    refine norm_ (a' := ?_) ?_ ?_
                    rotate_left
                    ·show Act.put _ (some 73) _ = _
                     simp only [Act.put, List.setIfInBounds_toArray, List.set_cons_zero, List.set_cons_succ, i64_w, i32_w]
                     rfl
                    exact norm_ (by simp only [putAll, Act.put, List.setIfInBounds_toArray, List.set_cons_zero, List.set_cons_succ]) (hCont (.slice Ao33 y361.length co33, v365, v369) _ ⟨hHeld, (by exact Kd.V_mono HL360_0.out (fun _ hk => ⟨hk.1.2.2.1, ⟨hk.2, ⟨hk.1.2.2.2, ⟨hk.1.1, hk.1.2.1⟩⟩⟩⟩)), (by exact Kd.N_mono HO363.out (fun _ hk => ⟨hk.2, ⟨hk.1.2.2, ⟨hk.1.1, hk.1.2.1⟩⟩⟩)), (by exact Kd.N_mono HO366.out (fun _ hk => ⟨hk.2.2, ⟨hk.1, hk.2.1⟩⟩)), (by exact Kd.R_mono HO370.out (fun _ hk => hk.2)), (by exact Kd.N_mono HO_11.out (fun _ hk => ⟨hk.1.2.1, ⟨hk.2, ⟨hk.1.2.2, hk.1.1⟩⟩⟩)), (by exact Kd.R_mono HO_13.out (fun _ hk => hk.2)), (by repeat (first | exact HB.out | apply below_alloc | apply pw_below_drewN | apply below_drew1))⟩)
                  ·skip
                   refine Kd.R_lit_step Kd.string _ 9 ?hg (N := 79) ?hd (xs := ([rdOf ByteArray.empty l1 x45_2] : List ByteArray)) (inner := [.string (rdOf ByteArray.empty l1 x45_2)]) (ok := fun _ => True) (okp := fun _ => True) ?hr ?hp (fun _ hk => hk) trivial (Below.refl _ _) (Nat.le_refl _) (by simp) ?_; (case hd => rfl); (case hg => rfl); (case hr => first | (go_simp; done) | (go_simp; rfl)); (case hp => exact (Reps.one (show Kd.M Kd.string _ _ _ (rdOf ByteArray.empty l1 x45_2) [.string (rdOf ByteArray.empty l1 x45_2)] from rfl) (Reps.none _ _)))
                   intro v369 w28 ho29 hb hg_ hnew_
                   have HS0_ := (hb.cell (World.block_lt_of_cell? _ _ (hHeld.1))).trans (hHeld.1)
                   clear hg_ hnew_
                   (first | rw [← Ny368.out] at ho29 | (simp only [Int.reduceToNat] at ho29; rw [← Ny368.out] at ho29))
                   have n0_ := Aside0.mk (Kd.N_elder' (by exact HO_11.out) (Kd.R_base ho29) hb)
                   have n1_ := Aside0.mk (Kd.N_elder' (by exact HO_12.out) (Kd.R_base ho29) hb)
                   have n2_ := Aside0.mk (Kd.R_elder' (by exact HO_13.out) (Kd.R_base ho29) hb)
                   have n3_ := Aside0.mk (Kd.V_elder' (by exact HL360_0.out) (Kd.R_base ho29) hb)
                   have n4_ := Aside0.mk (Kd.R_lower (Kd.R_new' ho29 (Kd.R_lt (by exact HO_13.out))) (below_size (by repeat (first | exact HB.out | apply below_alloc | apply pw_below_drewN | apply below_drew1))))
                   have n5_ := Aside0.mk (Kd.C_below (by repeat (first | (with_reducible exact HR360_0.out) | (with_reducible refine Kd.C_alloc ?_ _) | (with_reducible refine Kd.C_drewN ?_ _) | (with_reducible refine Kd.C_drew ?_) | exact HR360_0.out)) hb)
                   have n6_ := Aside0.mk (below_step (by repeat (first | exact HB.out | apply below_alloc | apply pw_below_drewN | apply below_drew1)) hb)
                   clear HO_11
                   clear HO_12
                   clear HO_13
                   clear HL360_0
                   clear HR360_0
                   clear HB
                   have HO_11 := n0_
                   have HO_12 := n1_
                   have HO_13 := n2_
                   have HL360_0 := n3_
                   have HO370 := n4_
                   have HR360_0 := n5_
                   have HB := n6_
                   clear n0_ n1_ n2_ n3_ n4_ n5_ n6_
                   clear hb ho29
                   refine hK.out _ _ ⟨HS0_, ((HB.out.cell (World.block_lt_of_cell? w _ hw367_0)).trans hw367_0)⟩ (fun hHeld => ?_)
                   clear hK K
                   refine norm_ (a' := ?_) ?_ ?_
                   rotate_left
                   ·show Act.put _ (some 79) _ = _
                    simp only [Act.put, List.setIfInBounds_toArray, List.set_cons_zero, List.set_cons_succ, i64_w, i32_w]
                    rfl
                   refine one_ (i := 5) (N := some 72) #[true, true, true, true, true, true, false, true, true, true, true, true, true, false, false, false] rfl rfl (one_of HT_.out (by kernel_rfl)) (by decide) (fun K hK => ?_)
                   refine Kd.N_lit_step (Kd.slice 3 (Kd.int .i64)) _ 32 ?hg (N' := 72) ?hd (xs := ([rd_L3 t354 x45_2] : List (List Int))) (inner := [.slice A360_0 (rd_L3 t354 x45_2).length c360_0]) (ok := (fun k_ => some k_ ≠ (.slice (some ad360) t354.length co27 : Value).ownBlock ∧ some k_ ≠ (.slice Ao25 x12_2.length co25 : Value).ownBlock ∧ some k_ ≠ (.slice (some ad359) x13_2.length co24 : Value).ownBlock ∧ some k_ ≠ (v369 : Value).ownBlock)) (okp := (fun k_ => some k_ ≠ (.slice (some ad360) t354.length co27 : Value).ownBlock ∧ some k_ ≠ (.slice Ao25 x12_2.length co25 : Value).ownBlock ∧ some k_ ≠ (.slice (some ad359) x13_2.length co24 : Value).ownBlock ∧ some k_ ≠ (v369 : Value).ownBlock)) ?hr ?hp (fun _ hk => hk) ((show ∀ k_, w28.heap.size ≤ k_ → (fun k_ => some k_ ≠ (.slice (some ad360) t354.length co27 : Value).ownBlock ∧ some k_ ≠ (.slice Ao25 x12_2.length co25 : Value).ownBlock ∧ some k_ ≠ (.slice (some ad359) x13_2.length co24 : Value).ownBlock ∧ some k_ ≠ (v369 : Value).ownBlock) k_ from fun k_ hk => ⟨Kd.fresh' (Kd.N_lt (by exact HO_11.out)) k_ hk, Kd.fresh' (Kd.N_lt (by exact HO_12.out)) k_ hk, Kd.fresh' (Kd.R_lt (by exact HO_13.out)) k_ hk, Kd.fresh' (Kd.R_lt (by exact HO370.out)) k_ hk⟩) _ (Nat.le_refl _)) (Below.refl _ _) (Nat.le_refl _) (by simp) ?_; (case hd => rfl); (case hg => rfl); (case hr => first | (go_simp; done) | (go_simp; rfl)); (case hp => exact (Reps.one (show Kd.FK (Kd.slice 3 (Kd.int .i64)) _ _ (rd_L3 t354 x45_2) [.slice A360_0 (rd_L3 t354 x45_2).length c360_0] from (Kd.FK_slice_mk (Kd.V_reads' (Kd.V_mono (ok' := (fun k_ => some k_ ≠ (.slice (some ad360) t354.length co27 : Value).ownBlock ∧ some k_ ≠ (.slice Ao25 x12_2.length co25 : Value).ownBlock ∧ some k_ ≠ (.slice (some ad359) x13_2.length co24 : Value).ownBlock ∧ some k_ ≠ (v369 : Value).ownBlock)) (HL360_0.out) (fun k_ hk => ⟨hk.1.2, ⟨hk.1.1.1, ⟨hk.1.1.2, hk.2⟩⟩⟩))).2.1 (Kd.V_F (Kd.V_mono (ok' := (fun k_ => some k_ ≠ (.slice (some ad360) t354.length co27 : Value).ownBlock ∧ some k_ ≠ (.slice Ao25 x12_2.length co25 : Value).ownBlock ∧ some k_ ≠ (.slice (some ad359) x13_2.length co24 : Value).ownBlock ∧ some k_ ≠ (v369 : Value).ownBlock)) (HL360_0.out) (fun k_ hk => ⟨hk.1.2, ⟨hk.1.1.1, ⟨hk.1.1.2, hk.2⟩⟩⟩))))) (Reps.none _ _)))
                   intro v362 w30 ho31 hb hg_ hnew_
                   have HS0_ := (hb.cell (World.block_lt_of_cell? _ _ (hHeld.1))).trans (hHeld.1)
                   clear hg_ hnew_
                   (first | rw [← Ny361.out] at ho31 | (simp only [Int.reduceToNat] at ho31; rw [← Ny361.out] at ho31))
                   have n0_ := Aside0.mk (Kd.N_elder' (by exact HO_11.out) (Kd.N_base ho31) hb)
                   have n1_ := Aside0.mk (Kd.N_elder' (by exact HO_12.out) (Kd.N_base ho31) hb)
                   have n2_ := Aside0.mk (Kd.R_below (by exact HO_13.out) hb)
                   have n3_ := Aside0.mk (Kd.V_elder' (by exact HL360_0.out) (Kd.N_base ho31) hb)
                   have n4_ := Aside0.mk (Kd.R_below (by exact HO370.out) hb)
                   have n5_ := Aside0.mk (Kd.N_lower ho31 (below_size (by repeat (first | exact HB.out | apply below_alloc | apply pw_below_drewN | apply below_drew1))))
                   have n6_ := Aside0.mk (Kd.C_below (by repeat (first | (with_reducible exact HR360_0.out) | (with_reducible refine Kd.C_alloc ?_ _) | (with_reducible refine Kd.C_drewN ?_ _) | (with_reducible refine Kd.C_drew ?_) | exact HR360_0.out)) hb)
                   have n7_ := Aside0.mk (below_step (by repeat (first | exact HB.out | apply below_alloc | apply pw_below_drewN | apply below_drew1)) hb)
                   clear HO_11
                   clear HO_12
                   clear HO_13
                   clear HL360_0
                   clear HO370
                   clear HR360_0
                   clear HB
                   have HO_11 := n0_
                   have HO_12 := n1_
                   have HO_13 := n2_
                   have HL360_0 := n3_
                   have HO370 := n4_
                   have HO363 := n5_
                   have HR360_0 := n6_
                   have HB := n7_
                   clear n0_ n1_ n2_ n3_ n4_ n5_ n6_ n7_
                   clear hb ho31
                   obtain ⟨Ao33, co33, eo33⟩ := Kd.N_slice HO363.out
                   (first | subst eo33 | (injection eo33 with f1_ f2_ f3_; have f4_ := f1_.symm; have f5_ := f3_.symm; clear f1_ f2_ f3_; subst f4_; subst f5_))
                   refine hK.out _ _ ⟨HS0_, ((HB.out.cell (World.block_lt_of_cell? w _ hw367_0)).trans hw367_0)⟩ (fun hHeld => ?_)
                   clear hK K
                   refine norm_ (a' := ?_) ?_ ?_
                   rotate_left
                   ·show Act.put _ (some 72) _ = _
                    simp only [Act.put, List.setIfInBounds_toArray, List.set_cons_zero, List.set_cons_succ, i64_w, i32_w]
                    rfl
                   refine one_ (i := 6) (N := some 73) #[true, true, true, true, true, true, true, true, true, true, true, true, true, false, false, false] rfl rfl (one_of HT_.out (by kernel_rfl)) (by decide) (fun K hK => ?_)
                   refine Kd.N_append_rows_step (Kd.slice 3 (Kd.int .i64)) (w0 := w) w.heap.size (by rfl) (.tmp 67) (.tmp 72) 49 32 (.slice none 0 0) 24 rfl Try.underlying49 info32 rfl (by decide) (by omega) (.slice Ao25 x12_2.length co25) x12_2 y361 _ _ _ (fun k_ => some k_ ≠ (.slice (some ad360) t354.length co27 : Value).ownBlock ∧ some k_ ≠ (.slice (some ad359) x13_2.length co24 : Value).ownBlock ∧ some k_ ≠ (v369 : Value).ownBlock) (fun k_ => ((fun k_ => some k_ ≠ (.slice (some ad360) t354.length co27 : Value).ownBlock ∧ some k_ ≠ (.slice (some ad359) x13_2.length co24 : Value).ownBlock ∧ some k_ ≠ (v369 : Value).ownBlock)) k_ ∧ some k_ ≠ (.slice Ao25 x12_2.length co25 : Value).ownBlock) rfl rfl ?aO ?aR (fun _ hk => hk) ?aF ?aB ?aS ?aL ?_
                   (case aR => exact (by skip; exact Kd.N_F (Kd.N_mono (ok' := (fun k_ => ((fun k_ => some k_ ≠ (.slice (some ad360) t354.length co27 : Value).ownBlock ∧ some k_ ≠ (.slice (some ad359) x13_2.length co24 : Value).ownBlock ∧ some k_ ≠ (v369 : Value).ownBlock)) k_ ∧ some k_ ≠ (.slice Ao25 x12_2.length co25 : Value).ownBlock)) (HO363.out) (fun k_ hk => ⟨⟨hk.1, ⟨hk.2.2.1, hk.2.2.2⟩⟩, hk.2.1⟩))))
                   (case aB => exact (by repeat (first | exact HB.out | apply below_alloc | apply pw_below_drewN | apply below_drew1)))
                   (case aF => exact (fun k_ hk => ⟨Kd.fresh' (Kd.N_lt (by exact HO_11.out)) k_ hk, Kd.fresh' (Kd.R_lt (by exact HO_13.out)) k_ hk, Kd.fresh' (Kd.R_lt (by exact HO370.out)) k_ hk⟩))
                   (case aO => exact (by exact Kd.N_mono HO_12.out (fun _ hk => ⟨hk.1.1.1, ⟨hk.1.1.2, hk.1.2⟩⟩)))
                   (case aS => exact (below_size (by repeat (first | exact HB.out | apply below_alloc | apply pw_below_drewN | apply below_drew1))))
                   (case aL => have := LMc21.out; omega)
                   intro v365 w32 ho hb hg hat
                   have HS0_ := cell_grown hg (hHeld.1) (by have h_ := HO_11.out.1 _ rfl; first | (rw [add_block]; first | exact h_ | exact h_.1 | exact h_.2 | exact h_.1.1 | exact h_.1.2 | exact h_.2.1 | exact h_.2.2 | exact h_.1.1.1 | exact h_.1.1.2 | exact h_.1.2.1 | exact h_.1.2.2 | exact h_.2.1.1 | exact h_.2.1.2 | exact h_.2.2.1 | exact h_.2.2.2 | exact h_.1.1.1.1 | exact h_.1.1.1.2 | exact h_.1.1.2.1 | exact h_.1.1.2.2 | exact h_.1.2.1.1 | exact h_.1.2.1.2 | exact h_.1.2.2.1 | exact h_.1.2.2.2 | exact h_.2.1.1.1 | exact h_.2.1.1.2 | exact h_.2.1.2.1 | exact h_.2.1.2.2 | exact h_.2.2.1.1 | exact h_.2.2.1.2 | exact h_.2.2.2.1 | exact h_.2.2.2.2) | (show some (Addr.add _ _).block ≠ _; rw [add_block]; first | exact h_ | exact h_.1 | exact h_.2 | exact h_.1.1 | exact h_.1.2 | exact h_.2.1 | exact h_.2.2 | exact h_.1.1.1 | exact h_.1.1.2 | exact h_.1.2.1 | exact h_.1.2.2 | exact h_.2.1.1 | exact h_.2.1.2 | exact h_.2.2.1 | exact h_.2.2.2 | exact h_.1.1.1.1 | exact h_.1.1.1.2 | exact h_.1.1.2.1 | exact h_.1.1.2.2 | exact h_.1.2.1.1 | exact h_.1.2.1.2 | exact h_.1.2.2.1 | exact h_.1.2.2.2 | exact h_.2.1.1.1 | exact h_.2.1.1.2 | exact h_.2.1.2.1 | exact h_.2.1.2.2 | exact h_.2.2.1.1 | exact h_.2.2.1.2 | exact h_.2.2.2.1 | exact h_.2.2.2.2) | (first | exact h_ | exact h_.1 | exact h_.2 | exact h_.1.1 | exact h_.1.2 | exact h_.2.1 | exact h_.2.2 | exact h_.1.1.1 | exact h_.1.1.2 | exact h_.1.2.1 | exact h_.1.2.2 | exact h_.2.1.1 | exact h_.2.1.2 | exact h_.2.2.1 | exact h_.2.2.2 | exact h_.1.1.1.1 | exact h_.1.1.1.2 | exact h_.1.1.2.1 | exact h_.1.1.2.2 | exact h_.1.2.1.1 | exact h_.1.2.1.2 | exact h_.1.2.2.1 | exact h_.1.2.2.2 | exact h_.2.1.1.1 | exact h_.2.1.1.2 | exact h_.2.1.2.1 | exact h_.2.1.2.2 | exact h_.2.2.1.1 | exact h_.2.2.1.2 | exact h_.2.2.2.1 | exact h_.2.2.2.2))
                   rw [← Ny364.out] at ho
                   have n0_ := Aside0.mk (Kd.N_afterv (ok := (fun k_ => some k_ ≠ (.slice (some ad359) x13_2.length co24 : Value).ownBlock ∧ some k_ ≠ (v369 : Value).ownBlock ∧ some k_ ≠ (.slice Ao33 y361.length co33 : Value).ownBlock)) (by exact Kd.N_mono HO_11.out (fun _ hk => ⟨⟨hk.1.1.2, ⟨hk.1.2, hk.2⟩⟩, hk.1.1.1⟩)) hg hat)
                   have n1_ := Aside0.mk (Kd.R_over' (by exact HO_13.out) (Kd.N_typed (by exact HO_12.out)) (by decide) hg)
                   have n2_ := Aside0.mk (Kd.V_afterv (ok := (fun k_ => some k_ ≠ (.slice (some ad360) t354.length co27 : Value).ownBlock ∧ some k_ ≠ (.slice (some ad359) x13_2.length co24 : Value).ownBlock ∧ some k_ ≠ (v369 : Value).ownBlock ∧ some k_ ≠ (.slice Ao33 y361.length co33 : Value).ownBlock)) (by exact Kd.V_mono HL360_0.out (fun _ hk => ⟨⟨hk.1.1.2, ⟨hk.1.1.1.2, ⟨hk.1.2, hk.2⟩⟩⟩, hk.1.1.1.1⟩)) hg hat)
                   have n3_ := Aside0.mk (Kd.R_over' (by exact HO370.out) (Kd.N_typed (by exact HO_12.out)) (by decide) hg)
                   have n4_ := Aside0.mk (Kd.N_afterv (ok := (fun k_ => some k_ ≠ (.slice (some ad360) t354.length co27 : Value).ownBlock ∧ some k_ ≠ (.slice (some ad359) x13_2.length co24 : Value).ownBlock ∧ some k_ ≠ (v369 : Value).ownBlock)) (by exact Kd.N_mono HO363.out (fun _ hk => ⟨⟨hk.1, ⟨hk.2.2.1, hk.2.2.2⟩⟩, hk.2.1⟩)) hg hat)
                   have n5_ := Aside0.mk (hb)
                   have n6_ := Aside0.mk (ho)
                   clear HO_11
                   clear HO_13
                   clear HL360_0
                   clear HO370
                   clear HO363
                   clear HB
                   clear HO_12
                   have HO_11 := n0_
                   have HO_13 := n1_
                   have HL360_0 := n2_
                   have HO370 := n3_
                   have HO363 := n4_
                   have HB := n5_
                   have HO366 := n6_
                   clear n0_ n1_ n2_ n3_ n4_ n5_ n6_
                   clear ho hb hg hat
                   refine hK.out _ _ ⟨HS0_, ((HB.out.cell (World.block_lt_of_cell? w _ hw367_0)).trans hw367_0)⟩ (fun hHeld => ?_)
                   clear hK K
                   refine norm_ (a' := ?_) ?_ ?_
                   rotate_left
                   ·show Act.put _ (some 73) _ = _
                    simp only [Act.put, List.setIfInBounds_toArray, List.set_cons_zero, List.set_cons_succ, i64_w, i32_w]
                    rfl
                   exact norm_ (by simp only [putAll, Act.put, List.setIfInBounds_toArray, List.set_cons_zero, List.set_cons_succ]) (hCont (.slice Ao33 y361.length co33, v365, v369) _ ⟨hHeld, (by exact Kd.V_mono HL360_0.out (fun _ hk => ⟨hk.1.2.2.2, ⟨hk.2, ⟨hk.1.2.2.1, ⟨hk.1.1, hk.1.2.1⟩⟩⟩⟩)), (by exact Kd.N_mono HO363.out (fun _ hk => ⟨hk.2, ⟨hk.1.2.2, ⟨hk.1.1, hk.1.2.1⟩⟩⟩)), (by exact Kd.N_mono HO366.out (fun _ hk => ⟨hk.2.2, ⟨hk.1, hk.2.1⟩⟩)), (by exact Kd.R_mono HO370.out (fun _ hk => hk.2)), (by exact Kd.N_mono HO_11.out (fun _ hk => ⟨hk.1.2.2, ⟨hk.2, ⟨hk.1.2.1, hk.1.1⟩⟩⟩)), (by exact Kd.R_mono HO_13.out (fun _ hk => hk.2)), (by repeat (first | exact HB.out | apply below_alloc | apply pw_below_drewN | apply below_drew1))⟩)
                 rintro ⟨v362, v365, v369⟩ w34 ⟨hS_, h0_, h1_, h2_, h3_, h4_, h5_, h6_⟩
                 have n0_ : Aside0 (Kd.V (Kd.int .i64) 3 w34 w.heap.size (fun k_ => some k_ ≠ (v362 : Value).ownBlock ∧ some k_ ≠ (v365 : Value).ownBlock ∧ some k_ ≠ (v369 : Value).ownBlock ∧ some k_ ≠ (.slice (some ad360) t354.length co27 : Value).ownBlock ∧ some k_ ≠ (.slice (some ad359) x13_2.length co24 : Value).ownBlock) (.slice A360_0 (rd_L3 t354 x45_2).length c360_0) (rd_L3 t354 x45_2)) := ⟨h0_⟩
                 have n1_ : Aside0 (Kd.N (Kd.slice 3 (Kd.int .i64)) 32 w34 w.heap.size (fun k_ => some k_ ≠ (v365 : Value).ownBlock ∧ some k_ ≠ (v369 : Value).ownBlock ∧ some k_ ≠ (.slice (some ad360) t354.length co27 : Value).ownBlock ∧ some k_ ≠ (.slice (some ad359) x13_2.length co24 : Value).ownBlock) v362 y361) := ⟨h1_⟩
                 have n2_ : Aside0 (Kd.N (Kd.slice 3 (Kd.int .i64)) 32 w34 w.heap.size (fun k_ => some k_ ≠ (v369 : Value).ownBlock ∧ some k_ ≠ (.slice (some ad360) t354.length co27 : Value).ownBlock ∧ some k_ ≠ (.slice (some ad359) x13_2.length co24 : Value).ownBlock) v365 y364) := ⟨h2_⟩
                 have n3_ : Aside0 (Kd.R Kd.string 9 w34 w.heap.size (fun k_ => some k_ ≠ (.slice (some ad359) x13_2.length co24 : Value).ownBlock) v369 y368) := ⟨h3_⟩
                 have n4_ : Aside0 (Kd.N (Kd.slice 3 (Kd.int .i64)) 32 w34 w.heap.size (fun k_ => some k_ ≠ (v362 : Value).ownBlock ∧ some k_ ≠ (v365 : Value).ownBlock ∧ some k_ ≠ (v369 : Value).ownBlock ∧ some k_ ≠ (.slice (some ad359) x13_2.length co24 : Value).ownBlock) (.slice (some ad360) t354.length co27) t354) := ⟨h4_⟩
                 have n5_ : Aside0 (Kd.R Kd.string 9 w34 w.heap.size (fun k_ => some k_ ≠ (v369 : Value).ownBlock) (.slice (some ad359) x13_2.length co24) x13_2) := ⟨h5_⟩
                 have n6_ : Aside0 (Below w.heap.size w w34) := ⟨h6_⟩
                 clear HO_11
                 clear HO_12
                 clear HO_13
                 clear HB
                 clear h0_ h1_ h2_ h3_ h4_ h5_ h6_
                 have HL360_0 := n0_
                 have HO363 := n1_
                 have HO366 := n2_
                 have HO370 := n3_
                 have HO_11 := n4_
                 have HO_13 := n5_
                 have HB := n6_
                 clear n0_ n1_ n2_ n3_ n4_ n5_ n6_
                 have hHeld : w34.cell? (ad360.add (x45_2).toNat) = some (.slice A360_0 (rd_L3 t354 x45_2).length c360_0) ∧ w34.cell? (ad358.add (x45_2).toNat) = some (.string (rdOf ByteArray.empty l1 x45_2)) := hS_
                 obtain ⟨Ao36, co36, eo36⟩ := Kd.R_slice HO370.out
                 (first | subst eo36 | (injection eo36 with f1_ f2_ f3_; have f4_ := f1_.symm; have f5_ := f3_.symm; clear f1_ f2_ f3_; subst f4_; subst f5_))
                 refine norm_ (a' := ?_) ?_ ?_
                 rotate_left
                 ·simp only [putAll, Act.put, List.setIfInBounds_toArray, List.set_cons_zero, List.set_cons_succ]
                  rfl
                 refine one_ (i := 13) (N := some 80) #[true, true, true, true, true, true, true, true, true, true, true, true, true, true, false, false] rfl rfl (one_of HT_.out (by kernel_rfl)) (by decide) (fun K hK => ?_)
                 refine Kd.R_append_rows_step Kd.string (w0 := w) w.heap.size (by rfl) (.tmp 74) (.tmp 79) 24 9 (.string ⟨#[]⟩) 16 rfl Try.underlying24 info9 rfl (by decide) (by omega) (.slice (some ad359) x13_2.length co24) x13_2 y368 _ _ _ (fun k_ => some k_ ≠ (.slice Ao36 y368.length co36 : Value).ownBlock) (fun _ => False) rfl rfl ?aO ?aR (fun _ _ h => h) (fun _ h => h.elim) ?aF ?aB ?aS ?aL ?_
                 (case aR => repeat (first | exact (Kd.R_reads' HO370.out).2.2 | (with_reducible refine Kd.C_alloc ?_ _) | (with_reducible refine Kd.C_drewN ?_ _) | (with_reducible refine Kd.C_drew ?_)))
                 (case aB => exact (by repeat (first | exact HB.out | apply below_alloc | apply pw_below_drewN | apply below_drew1)))
                 (case aF => exact (fun k_ hk => Kd.fresh' (Kd.R_lt (by exact HO370.out)) k_ hk))
                 (case aO => exact (by exact HO_13.out))
                 (case aS => exact (below_size (by repeat (first | exact HB.out | apply below_alloc | apply pw_below_drewN | apply below_drew1))))
                 (case aL => have := LMc22.out; omega)
                 intro v372 w35 ho hb hg hat
                 have HS0_ := cell_grown hg (hHeld.1) (by have h_ := HO_11.out.1 _ rfl; first | (rw [add_block]; first | exact h_ | exact h_.1 | exact h_.2 | exact h_.1.1 | exact h_.1.2 | exact h_.2.1 | exact h_.2.2 | exact h_.1.1.1 | exact h_.1.1.2 | exact h_.1.2.1 | exact h_.1.2.2 | exact h_.2.1.1 | exact h_.2.1.2 | exact h_.2.2.1 | exact h_.2.2.2 | exact h_.1.1.1.1 | exact h_.1.1.1.2 | exact h_.1.1.2.1 | exact h_.1.1.2.2 | exact h_.1.2.1.1 | exact h_.1.2.1.2 | exact h_.1.2.2.1 | exact h_.1.2.2.2 | exact h_.2.1.1.1 | exact h_.2.1.1.2 | exact h_.2.1.2.1 | exact h_.2.1.2.2 | exact h_.2.2.1.1 | exact h_.2.2.1.2 | exact h_.2.2.2.1 | exact h_.2.2.2.2) | (show some (Addr.add _ _).block ≠ _; rw [add_block]; first | exact h_ | exact h_.1 | exact h_.2 | exact h_.1.1 | exact h_.1.2 | exact h_.2.1 | exact h_.2.2 | exact h_.1.1.1 | exact h_.1.1.2 | exact h_.1.2.1 | exact h_.1.2.2 | exact h_.2.1.1 | exact h_.2.1.2 | exact h_.2.2.1 | exact h_.2.2.2 | exact h_.1.1.1.1 | exact h_.1.1.1.2 | exact h_.1.1.2.1 | exact h_.1.1.2.2 | exact h_.1.2.1.1 | exact h_.1.2.1.2 | exact h_.1.2.2.1 | exact h_.1.2.2.2 | exact h_.2.1.1.1 | exact h_.2.1.1.2 | exact h_.2.1.2.1 | exact h_.2.1.2.2 | exact h_.2.2.1.1 | exact h_.2.2.1.2 | exact h_.2.2.2.1 | exact h_.2.2.2.2) | (first | exact h_ | exact h_.1 | exact h_.2 | exact h_.1.1 | exact h_.1.2 | exact h_.2.1 | exact h_.2.2 | exact h_.1.1.1 | exact h_.1.1.2 | exact h_.1.2.1 | exact h_.1.2.2 | exact h_.2.1.1 | exact h_.2.1.2 | exact h_.2.2.1 | exact h_.2.2.2 | exact h_.1.1.1.1 | exact h_.1.1.1.2 | exact h_.1.1.2.1 | exact h_.1.1.2.2 | exact h_.1.2.1.1 | exact h_.1.2.1.2 | exact h_.1.2.2.1 | exact h_.1.2.2.2 | exact h_.2.1.1.1 | exact h_.2.1.1.2 | exact h_.2.1.2.1 | exact h_.2.1.2.2 | exact h_.2.2.1.1 | exact h_.2.2.1.2 | exact h_.2.2.2.1 | exact h_.2.2.2.2))
                 rw [← Ny371.out] at ho
                 have n0_ := Aside0.mk (Kd.N_afterv (ok := (fun k_ => some k_ ≠ (v362 : Value).ownBlock ∧ some k_ ≠ (v365 : Value).ownBlock ∧ some k_ ≠ (.slice Ao36 y368.length co36 : Value).ownBlock)) (by exact Kd.N_mono HO_11.out (fun _ hk => ⟨⟨hk.1, ⟨hk.2.1, hk.2.2.1⟩⟩, hk.2.2.2⟩)) hg hat)
                 have n1_ := Aside0.mk (Kd.V_afterv (ok := (fun k_ => some k_ ≠ (.slice (some ad360) t354.length co27 : Value).ownBlock ∧ some k_ ≠ (v362 : Value).ownBlock ∧ some k_ ≠ (v365 : Value).ownBlock ∧ some k_ ≠ (.slice Ao36 y368.length co36 : Value).ownBlock)) (by exact Kd.V_mono HL360_0.out (fun _ hk => ⟨⟨hk.2.2.2.1, ⟨hk.1, ⟨hk.2.1, hk.2.2.1⟩⟩⟩, hk.2.2.2.2⟩)) hg hat)
                 have n2_ := Aside0.mk (Kd.N_afterv (ok := (fun k_ => some k_ ≠ (.slice (some ad360) t354.length co27 : Value).ownBlock ∧ some k_ ≠ (v365 : Value).ownBlock ∧ some k_ ≠ (.slice Ao36 y368.length co36 : Value).ownBlock)) (by exact Kd.N_mono HO363.out (fun _ hk => ⟨⟨hk.2.2.1, ⟨hk.1, hk.2.1⟩⟩, hk.2.2.2⟩)) hg hat)
                 have n3_ := Aside0.mk (Kd.N_afterv (ok := (fun k_ => some k_ ≠ (.slice (some ad360) t354.length co27 : Value).ownBlock ∧ some k_ ≠ (.slice Ao36 y368.length co36 : Value).ownBlock)) (by exact Kd.N_mono HO366.out (fun _ hk => ⟨⟨hk.2.1, hk.1⟩, hk.2.2⟩)) hg hat)
                 have n4_ := Aside0.mk (Kd.R_after (ok := (fun _ => True)) (by exact Kd.R_mono HO370.out (fun _ hk => ⟨trivial, hk⟩)) hg hat)
                 have n5_ := Aside0.mk (hb)
                 have n6_ := Aside0.mk (ho)
                 clear HO_11
                 clear HL360_0
                 clear HO363
                 clear HO366
                 clear HO370
                 clear HB
                 clear HO_13
                 have HO_11 := n0_
                 have HL360_0 := n1_
                 have HO363 := n2_
                 have HO366 := n3_
                 have HO370 := n4_
                 have HB := n5_
                 have HO373 := n6_
                 clear n0_ n1_ n2_ n3_ n4_ n5_ n6_
                 clear ho hb hg hat
                 refine hK.out _ _ ⟨HS0_, ((HB.out.cell (World.block_lt_of_cell? w _ hw367_0)).trans hw367_0)⟩ (fun hHeld => ?_)
                 clear hK K
                 refine norm_ (a' := ?_) ?_ ?_
                 rotate_left
                 ·show Act.put _ (some 80) _ = _
                  simp only [Act.put, List.setIfInBounds_toArray, List.set_cons_zero, List.set_cons_succ, i64_w, i32_w]
                  rfl
                 refine pure_ (i := 14) (N := some 12) (v := ?_) (a' := ?_) #[true, true, true, true, true, true, true, true, true, true, true, true, true, true, true, false] rfl rfl (any_of HT_.out (by kernel_rfl)) (fun _ _ _ h => h) (Or.inl ⟨by rfl, ?_⟩) ?_ ?_
                 rotate_left
                 ·intro w'
                  go_simp
                  with_reducible rfl
                 rotate_left
                 ·simp only [Act.put, List.setIfInBounds_toArray, List.set_cons_zero, List.set_cons_succ, i64_w, i32_w]
                  rfl
                 refine pure_ (i := 15) (N := some 13) (v := ?_) (a' := ?_) #[true, true, true, true, true, true, true, true, true, true, true, true, true, true, true, true] rfl rfl (any_of HT_.out (by kernel_rfl)) (fun _ _ _ h => h) (Or.inl ⟨by rfl, ?_⟩) ?_ ?_
                 rotate_left
                 ·intro w'
                  go_simp
                  with_reducible rfl
                 rotate_left
                 ·simp only [Act.put, List.setIfInBounds_toArray, List.set_cons_zero, List.set_cons_succ, i64_w, i32_w]
                  rfl
                 refine done_ (done_of HT_.out (by kernel_rfl)) ?_
                 try go_wp2
                 go_roundg k2
                 case measure => have := HJ4.out; have := HK2.out; omega
                 case rel => exact ⟨(y364), (y371), (wrap64 (x45_2 + 1)), (by first | rfl | (simp; done) | (simp [*]; done)), H', ⟨by have := HJ4.out; have := HK2.out; omega⟩, ⟨by exact Kd.N_mono HO_11.out (fun _ hk => ⟨hk.1.2.1, hk.2⟩)⟩, ⟨by exact Kd.N_mono HO366.out (fun _ hk => ⟨hk.1.1, hk.2⟩)⟩, ⟨by exact Kd.R_mono HO373.out (fun _ hk => trivial)⟩, ⟨by repeat (first | exact HB.out | apply below_alloc | apply pw_below_drewN | apply below_drew1)⟩⟩
                ·rw [if_neg c22] at H
                 exact absurd H (by simp)
               ·rw [if_neg c21] at H
                exact absurd H (by simp)
              ·rw [if_neg c20] at H
               exact absurd H (by simp)
             ·rw [if_neg c19] at H
              have c19b0 : (((rdOf ByteArray.empty l1 x45_2).size : Int) == ((rdOf ByteArray.empty x13_2 0).size : Int)) = false := beq_eq_false_iff_ne.mpr c19
              have c19b1 : (((rdOf ByteArray.empty l1 x45_2).size : Int) != ((rdOf ByteArray.empty x13_2 0).size : Int)) = true := bne_iff_ne.mpr c19
              have c19b2 : ((rdOf ByteArray.empty l1 x45_2).size == (rdOf ByteArray.empty x13_2 0).size) = false := by first | simpa using c19 | (simp at c19 ⊢; omega)
              simp only [Option.some.injEq, Prod.mk.injEq] at H
              obtain ⟨rfl, rfl⟩ := H
              have p357 : 0 ≤ (x45_2 : Int) := of_decide_eq_true (by assumption)
              have q357 : x45_2 < (l2.length : Int) := of_decide_eq_true (by assumption)
              obtain ⟨ad357, e357, hx357_0⟩ := Kd.at_bool HR2.out x45_2 p357 q357
              (try rw [← Nbq14.out] at hx357_0)
              cases e357
              replace hx357_0 := (HB.out.cell (World.block_lt_of_cell? w _ hx357_0)).trans hx357_0
              replace p357 := eq_true p357
              replace q357 := eq_true q357
              try go_wp2
              have n0_ := Aside0.mk (Kd.N_drew HO_11.out)
              have n1_ := Aside0.mk (Kd.N_drew HO_12.out)
              have n2_ := Aside0.mk (Kd.R_drew HO_13.out)
              have n3_ := Aside0.mk (below_drew1 HB.out)
              clear HO_11
              clear HO_12
              clear HO_13
              clear HB
              have HO_11 := n0_
              have HO_12 := n1_
              have HO_13 := n2_
              have HB := n3_
              clear n0_ n1_ n2_ n3_
              obtain ⟨Ao38, co38, eo38⟩ := Kd.R_slice HO_13.out
              (first | subst eo38 | (injection eo38 with f1_ f2_ f3_; have f4_ := f1_.symm; have f5_ := f3_.symm; clear f1_ f2_ f3_; subst f4_; subst f5_))
              have p358 : 0 ≤ (x45_2 : Int) := of_decide_eq_true (by assumption)
              have q358 : x45_2 < (l1.length : Int) := of_decide_eq_true (by assumption)
              obtain ⟨ad358, e358, hx358_0⟩ := Kd.at_string HR1.out x45_2 p358 q358
              have hw358_0 := hx358_0
              cases e358
              replace hx358_0 := (HB.out.cell (World.block_lt_of_cell? w _ hx358_0)).trans hx358_0
              replace p358 := eq_true p358
              replace q358 := eq_true q358
              have p359 : 0 ≤ (0 : Int) := (by omega)
              have q359 : 0 < (x13_2.length : Int) := of_decide_eq_true (by assumption)
              obtain ⟨ad359, e359, hx359_0⟩ := Kd.at_string (Kd.R_reads' HO_13.out).2.2 0 p359 q359
              cases e359
              have qi359 : (0 < x13_2.length) = True := eq_true (by omega)
              (try rw [show ((0 : Int)).toNat = 0 from rfl] at hx359_0)
              (try rw [Addr.add_zero'] at hx359_0)
              replace p359 := eq_true p359
              replace q359 := eq_true q359
              refine start_ (n := 15) (S := fun w' => w'.cell? (ad358.add (x45_2).toNat) = some (.string (rdOf ByteArray.empty l1 x45_2)) ∧ w'.cell? ad359 = some (.string (rdOf ByteArray.empty x13_2 0))) (ds := []) #[false, false, false, false, false, false, false, false, false, false, false, false, false, false, false] (by kernel_rfl) rfl rfl ⟨((HB.out.cell (World.block_lt_of_cell? w _ hw358_0)).trans hw358_0), hx359_0⟩ (fun hHeld => ?_); refine with_tabW impl_Decode.tab11 impl_Decode.bits11 (fun HT_ HW_ => ?_)
              generalize wr.drew = w37 at HO_11 HO_12 HO_13 HB hx358_0 hx359_0 hHeld ⊢
              refine pure_ (i := 0) (N := some 52) (v := ?_) (a' := ?_) #[true, false, false, false, false, false, false, false, false, false, false, false, false, false, false] rfl rfl (any_of HT_.out (by kernel_rfl)) (fun _ _ _ h => h) (Or.inl ⟨by rfl, ?_⟩) ?_ ?_
              rotate_left
              ·intro w'
               go_simp
               with_reducible rfl
              rotate_left
              ·simp only [Act.put, List.setIfInBounds_toArray, List.set_cons_zero, List.set_cons_succ, i64_w, i32_w]
               rfl
              refine pure_ (i := 1) (N := some 53) (v := ?_) (a' := ?_) #[true, true, false, false, false, false, false, false, false, false, false, false, false, false, false] rfl rfl (any_of HT_.out (by kernel_rfl)) (fun _ _ _ h => h) (Or.inl ⟨by rfl, ?_⟩) ?_ ?_
              rotate_left
              ·intro w'
               go_simp
               with_reducible rfl
              rotate_left
              ·simp only [Act.put, List.setIfInBounds_toArray, List.set_cons_zero, List.set_cons_succ, i64_w, i32_w]
               rfl
              refine pure_ (i := 2) (N := some 54) (v := ?_) (a' := ?_) #[true, true, true, false, false, false, false, false, false, false, false, false, false, false, false] rfl rfl (any_of HT_.out (by kernel_rfl)) (fun _ _ _ h => h) (Or.inl ⟨by rfl, ?_⟩) ?_ ?_
              rotate_left
              ·intro w'
               go_simp
               with_reducible rfl
              rotate_left
              ·simp only [Act.put, List.setIfInBounds_toArray, List.set_cons_zero, List.set_cons_succ, i64_w, i32_w]
               rfl
              refine pure_ (i := 3) (N := some 55) (v := ?_) (a' := ?_) #[true, true, true, true, false, false, false, false, false, false, false, false, false, false, false] rfl rfl (any_of HT_.out (by kernel_rfl)) (fun _ _ _ h => h) (Or.inl ⟨by rfl, ?_⟩) ?_ ?_
              rotate_left
              ·intro w'
               go_simp
               with_reducible rfl
              rotate_left
              ·simp only [Act.put, List.setIfInBounds_toArray, List.set_cons_zero, List.set_cons_succ, i64_w, i32_w]
               rfl
              refine pure_ (i := 4) (N := some 56) (v := ?_) (a' := ?_) #[true, true, true, true, true, false, false, false, false, false, false, false, false, false, false] rfl rfl (any_of HT_.out (by kernel_rfl)) (fun _ _ _ h => h) (Or.inl ⟨by rfl, ?_⟩) ?_ ?_
              rotate_left
              ·intro w'
               go_simp
               with_reducible rfl
              rotate_left
              ·simp only [Act.put, List.setIfInBounds_toArray, List.set_cons_zero, List.set_cons_succ, i64_w, i32_w]
               rfl
              refine pure_ (i := 5) (N := some 57) (v := ?_) (a' := ?_) #[true, true, true, true, true, true, false, false, false, false, false, false, false, false, false] rfl rfl (any_of HT_.out (by kernel_rfl)) (fun _ _ _ h => h) (Or.inl ⟨by rfl, ?_⟩) ?_ ?_
              rotate_left
              ·intro w'
               go_simp
               with_reducible rfl
              rotate_left
              ·simp only [Act.put, List.setIfInBounds_toArray, List.set_cons_zero, List.set_cons_succ, i64_w, i32_w]
               rfl
              refine pure_ (i := 6) (N := some 58) (v := ?_) (a' := ?_) #[true, true, true, true, true, true, true, false, false, false, false, false, false, false, false] rfl rfl (any_of HT_.out (by kernel_rfl)) (fun _ _ _ h => h) (Or.inl ⟨by rfl, ?_⟩) ?_ ?_
              rotate_left
              ·intro w'
               go_simp
               with_reducible rfl
              rotate_left
              ·simp only [Act.put, List.setIfInBounds_toArray, List.set_cons_zero, List.set_cons_succ, i64_w, i32_w]
               rfl
              refine pure_ (i := 9) (N := some 61) (v := ?_) (a' := ?_) #[true, true, true, true, true, true, true, false, false, true, false, false, false, false, false] rfl rfl (any_of HT_.out (by kernel_rfl)) (fun _ _ _ h => h) (Or.inl ⟨by rfl, ?_⟩) ?_ ?_
              rotate_left
              ·intro w'
               go_simp
               with_reducible rfl
              rotate_left
              ·simp only [Act.put, List.setIfInBounds_toArray, List.set_cons_zero, List.set_cons_succ, i64_w, i32_w]
               rfl
              refine pure_ (i := 10) (N := some 62) (v := ?_) (a' := ?_) #[true, true, true, true, true, true, true, false, false, true, true, false, false, false, false] rfl rfl (any_of HT_.out (by kernel_rfl)) (fun _ _ _ h => h) (Or.inl ⟨by rfl, ?_⟩) ?_ ?_
              rotate_left
              ·intro w'
               go_simp
               with_reducible rfl
              rotate_left
              ·simp only [Act.put, List.setIfInBounds_toArray, List.set_cons_zero, List.set_cons_succ, i64_w, i32_w]
               rfl
              refine take_ (i := 7) (N := some 59) (v := ?_) (a' := ?_) #[true, true, true, true, true, true, true, true, false, true, true, false, false, false, false] rfl rfl (take_ofW HT_.out HW_.out (by kernel_rfl)) (fun _ _ _ h => h) (Or.inl ⟨by rfl, ?_⟩) hHeld ?_ ?_
              rotate_left
              ·rintro w' ⟨s0, s1⟩
               go_simp
               with_reducible rfl
              rotate_left
              ·simp only [Act.put, List.setIfInBounds_toArray, List.set_cons_zero, List.set_cons_succ, i64_w, i32_w]
               rfl
              refine pure_ (i := 8) (N := some 60) (v := ?_) (a' := ?_) #[true, true, true, true, true, true, true, true, true, true, true, false, false, false, false] rfl rfl (any_of HT_.out (by kernel_rfl)) (fun _ _ _ h => h) (Or.inl ⟨by rfl, ?_⟩) ?_ ?_
              rotate_left
              ·intro w'
               go_simp
               with_reducible rfl
              rotate_left
              ·simp only [Act.put, List.setIfInBounds_toArray, List.set_cons_zero, List.set_cons_succ, i64_w, i32_w]
               rfl
              refine take_ (i := 11) (N := some 63) (v := ?_) (a' := ?_) #[true, true, true, true, true, true, true, true, true, true, true, true, false, false, false] rfl rfl (take_ofW HT_.out HW_.out (by kernel_rfl)) (fun _ _ _ h => h) (Or.inl ⟨by rfl, ?_⟩) hHeld ?_ ?_
              rotate_left
              ·rintro w' ⟨s0, s1⟩
               go_simp
               with_reducible rfl
              rotate_left
              ·simp only [Act.put, List.setIfInBounds_toArray, List.set_cons_zero, List.set_cons_succ, i64_w, i32_w]
               rfl
              refine pure_ (i := 12) (N := some 64) (v := ?_) (a' := ?_) #[true, true, true, true, true, true, true, true, true, true, true, true, true, false, false] rfl rfl (any_of HT_.out (by kernel_rfl)) (fun _ _ _ h => h) (Or.inl ⟨by rfl, ?_⟩) ?_ ?_
              rotate_left
              ·intro w'
               go_simp
               with_reducible rfl
              rotate_left
              ·simp only [Act.put, List.setIfInBounds_toArray, List.set_cons_zero, List.set_cons_succ, i64_w, i32_w]
               rfl
              refine pure_ (i := 13) (N := some 65) (v := ?_) (a' := ?_) #[true, true, true, true, true, true, true, true, true, true, true, true, true, true, false] rfl rfl (any_of HT_.out (by kernel_rfl)) (fun _ _ _ h => h) (Or.inl ⟨by rfl, ?_⟩) ?_ ?_
              rotate_left
              ·intro w'
               go_simp
               with_reducible rfl
              rotate_left
              ·simp only [Act.put, List.setIfInBounds_toArray, List.set_cons_zero, List.set_cons_succ, i64_w, i32_w]
               rfl
              refine pure_ (i := 14) (N := some 66) (v := ?_) (a' := ?_) #[true, true, true, true, true, true, true, true, true, true, true, true, true, true, true] rfl rfl (any_of HT_.out (by kernel_rfl)) (fun _ _ _ h => h) (Or.inl ⟨by rfl, ?_⟩) ?_ ?_
              rotate_left
              ·intro w'
               go_simp
               with_reducible rfl
              rotate_left
              ·simp only [Act.put, List.setIfInBounds_toArray, List.set_cons_zero, List.set_cons_succ, i64_w, i32_w]
               rfl
              refine done_ (done_of HT_.out (by kernel_rfl)) ?_
              try go_wp2
              go_ret2
              exact ⟨_, by first | rfl | (simp [errW_none, errW_some] <;> rfl) | (simp [*, errW_none, errW_some] <;> rfl), by first | exact Kd.R_nil _ _ _ _ _ | exact Kd.N_nil _ _ _ _ _ | exact Kd.V_nil _ _ _ _ _ | exact Kd.Q_nil _ _ _ _ _ | exact Kd.S_nil _ _ _ _ _, by repeat (first | exact HB.out | apply below_alloc | apply pw_below_drewN | apply below_drew1)⟩
            ·rw [if_neg c18] at H
             exact absurd H (by simp)
           ·rw [if_neg c17] at H
            exact absurd H (by simp)
          ·rw [if_neg c16] at H
           have c16b0 : decide (0 < (x13_2.length : Int)) = false := decide_eq_false c16
           have c16b1 : decide (0 < x13_2.length) = false := decide_eq_false (by omega)
           clear c16
           by_cases c39 : x45_2 < (t354.length : Int)
           ·rw [if_pos c39] at H
            have c39b0 : decide (x45_2 < (t354.length : Int)) = true := decide_eq_true c39
            clear c39
            obtain ⟨y375, hy375⟩ : ∃ y_ : List (List Int), y_ = (([rd_L3 t354 x45_2] : List (List Int))) := ⟨_, rfl⟩
            replace H : (if x12_2.length + y375.length < 5864062014805 then (if x45_2 < (l1.length : Int) then ((some (([rdOf ByteArray.empty l1 x45_2] : List ByteArray) : List ByteArray)).bind fun y382 => (if x13_2.length + y382.length < 8796093022208 then (impl_Decode.l0 k2 l1 t351 t354 (x12_2 ++ y375) (x13_2 ++ y382) l2 (l2.length : Int) (wrap64 (x45_2 + 1))) else (none))) else (none)) else (none)) = some (r1, r2) := by first | (rw [hy375]; with_reducible exact H) | (have H2_ := (Option.bind_some _ _).symm.trans H; rw [hy375]; with_reducible exact H2_) | (have H2_ := (Option.bind_some _ _).symm.trans H; with_reducible exact H2_) | with_reducible exact H | (rw [hy375]; exact H) | exact H
            have Ny375 := Aside0.mk hy375
            clear hy375
            by_cases c40 : x12_2.length + y375.length < 5864062014805
            ·rw [if_pos c40] at H
             have LMc40 := Aside0.mk c40
             clear c40
             obtain ⟨y378, hy378⟩ : ∃ y_ : List (List Int), y_ = (x12_2 ++ y375) := ⟨_, rfl⟩
             replace H : (if x45_2 < (l1.length : Int) then ((some (([rdOf ByteArray.empty l1 x45_2] : List ByteArray) : List ByteArray)).bind fun y382 => (if x13_2.length + y382.length < 8796093022208 then (impl_Decode.l0 k2 l1 t351 t354 y378 (x13_2 ++ y382) l2 (l2.length : Int) (wrap64 (x45_2 + 1))) else (none))) else (none)) = some (r1, r2) := by first | (rw [hy378]; with_reducible exact H) | (have H2_ := (Option.bind_some _ _).symm.trans H; rw [hy378]; with_reducible exact H2_) | (have H2_ := (Option.bind_some _ _).symm.trans H; with_reducible exact H2_) | with_reducible exact H | (rw [hy378]; exact H) | exact H
             have Ny378 := Aside0.mk hy378
             clear hy378
             by_cases c41 : x45_2 < (l1.length : Int)
             ·rw [if_pos c41] at H
              have c41b0 : decide (x45_2 < (l1.length : Int)) = true := decide_eq_true c41
              clear c41
              obtain ⟨y382, hy382⟩ : ∃ y_ : List ByteArray, y_ = (([rdOf ByteArray.empty l1 x45_2] : List ByteArray)) := ⟨_, rfl⟩
              replace H : (if x13_2.length + y382.length < 8796093022208 then (impl_Decode.l0 k2 l1 t351 t354 y378 (x13_2 ++ y382) l2 (l2.length : Int) (wrap64 (x45_2 + 1))) else (none)) = some (r1, r2) := by first | (rw [hy382]; with_reducible exact H) | (have H2_ := (Option.bind_some _ _).symm.trans H; rw [hy382]; with_reducible exact H2_) | (have H2_ := (Option.bind_some _ _).symm.trans H; with_reducible exact H2_) | with_reducible exact H | (rw [hy382]; exact H) | exact H
              have Ny382 := Aside0.mk hy382
              clear hy382
              by_cases c42 : x13_2.length + y382.length < 8796093022208
              ·rw [if_pos c42] at H
               have LMc42 := Aside0.mk c42
               clear c42
               obtain ⟨y385, hy385⟩ : ∃ y_ : List ByteArray, y_ = (x13_2 ++ y382) := ⟨_, rfl⟩
               replace H : (impl_Decode.l0 k2 l1 t351 t354 y378 y385 l2 (l2.length : Int) (wrap64 (x45_2 + 1))) = some (r1, r2) := by first | (rw [hy385]; with_reducible exact H) | (have H2_ := (Option.bind_some _ _).symm.trans H; rw [hy385]; with_reducible exact H2_) | (have H2_ := (Option.bind_some _ _).symm.trans H; with_reducible exact H2_) | with_reducible exact H | (rw [hy385]; exact H) | exact H
               have Ny385 := Aside0.mk hy385
               clear hy385
               have H' := Aside0.mk H
               clear H
               have p357 : 0 ≤ (x45_2 : Int) := of_decide_eq_true (by assumption)
               have q357 : x45_2 < (l2.length : Int) := of_decide_eq_true (by assumption)
               obtain ⟨ad357, e357, hx357_0⟩ := Kd.at_bool HR2.out x45_2 p357 q357
               (try rw [← Nbq14.out] at hx357_0)
               cases e357
               replace hx357_0 := (HB.out.cell (World.block_lt_of_cell? w _ hx357_0)).trans hx357_0
               replace p357 := eq_true p357
               replace q357 := eq_true q357
               try go_wp2
               have n0_ := Aside0.mk (Kd.N_drew HO_11.out)
               have n1_ := Aside0.mk (Kd.N_drew HO_12.out)
               have n2_ := Aside0.mk (Kd.R_drew HO_13.out)
               have n3_ := Aside0.mk (below_drew1 HB.out)
               clear HO_11
               clear HO_12
               clear HO_13
               clear HB
               have HO_11 := n0_
               have HO_12 := n1_
               have HO_13 := n2_
               have HB := n3_
               clear n0_ n1_ n2_ n3_
               obtain ⟨Ao44, co44, eo44⟩ := Kd.R_slice HO_13.out
               (first | subst eo44 | (injection eo44 with f1_ f2_ f3_; have f4_ := f1_.symm; have f5_ := f3_.symm; clear f1_ f2_ f3_; subst f4_; subst f5_))
               refine start_ (n := 15) (S := fun w' => True) (ds := []) #[false, false, false, false, false, false, false, false, false, false, false, false, false, false, false] (by kernel_rfl) rfl rfl trivial (fun hHeld => ?_); refine with_tabW impl_Decode.tab11 impl_Decode.bits11 (fun HT_ HW_ => ?_)
               generalize wr.drew = w43 at HO_11 HO_12 HO_13 HB hHeld ⊢
               refine pure_ (i := 0) (N := some 52) (v := ?_) (a' := ?_) #[true, false, false, false, false, false, false, false, false, false, false, false, false, false, false] rfl rfl (any_of HT_.out (by kernel_rfl)) (fun _ _ _ h => h) (Or.inl ⟨by rfl, ?_⟩) ?_ ?_
               rotate_left
               ·intro w'
                go_simp
                with_reducible rfl
               rotate_left
               ·simp only [Act.put, List.setIfInBounds_toArray, List.set_cons_zero, List.set_cons_succ, i64_w, i32_w]
                rfl
               refine pure_ (i := 1) (N := some 53) (v := ?_) (a' := ?_) #[true, true, false, false, false, false, false, false, false, false, false, false, false, false, false] rfl rfl (any_of HT_.out (by kernel_rfl)) (fun _ _ _ h => h) (Or.inl ⟨by rfl, ?_⟩) ?_ ?_
               rotate_left
               ·intro w'
                go_simp
                with_reducible rfl
               rotate_left
               ·simp only [Act.put, List.setIfInBounds_toArray, List.set_cons_zero, List.set_cons_succ, i64_w, i32_w]
                rfl
               refine pure_ (i := 2) (N := some 54) (v := ?_) (a' := ?_) #[true, true, true, false, false, false, false, false, false, false, false, false, false, false, false] rfl rfl (any_of HT_.out (by kernel_rfl)) (fun _ _ _ h => h) (Or.inl ⟨by rfl, ?_⟩) ?_ ?_
               rotate_left
               ·intro w'
                go_simp
                with_reducible rfl
               rotate_left
               ·simp only [Act.put, List.setIfInBounds_toArray, List.set_cons_zero, List.set_cons_succ, i64_w, i32_w]
                rfl
               refine pure_ (i := 3) (N := some 55) (v := ?_) (a' := ?_) #[true, true, true, true, false, false, false, false, false, false, false, false, false, false, false] rfl rfl (any_of HT_.out (by kernel_rfl)) (fun _ _ _ h => h) (Or.inl ⟨by rfl, ?_⟩) ?_ ?_
               rotate_left
               ·intro w'
                go_simp
                with_reducible rfl
               rotate_left
               ·simp only [Act.put, List.setIfInBounds_toArray, List.set_cons_zero, List.set_cons_succ, i64_w, i32_w]
                rfl
               refine pure_ (i := 4) (N := some 56) (v := undef) (a' := ?_) #[true, true, true, true, true, false, false, false, false, false, false, false, false, false, false] rfl rfl (any_of HT_.out (by kernel_rfl)) (fun _ _ _ h => h) (Or.inr ⟨by rfl, rfl⟩) ?_ ?_
               rotate_left
               ·simp only [Act.put, List.setIfInBounds_toArray, List.set_cons_zero, List.set_cons_succ, i64_w, i32_w]
                rfl
               refine pure_ (i := 5) (N := some 57) (v := undef) (a' := ?_) #[true, true, true, true, true, true, false, false, false, false, false, false, false, false, false] rfl rfl (any_of HT_.out (by kernel_rfl)) (fun _ _ _ h => h) (Or.inr ⟨by rfl, rfl⟩) ?_ ?_
               rotate_left
               ·simp only [Act.put, List.setIfInBounds_toArray, List.set_cons_zero, List.set_cons_succ, i64_w, i32_w]
                rfl
               refine pure_ (i := 6) (N := some 58) (v := undef) (a' := ?_) #[true, true, true, true, true, true, true, false, false, false, false, false, false, false, false] rfl rfl (any_of HT_.out (by kernel_rfl)) (fun _ _ _ h => h) (Or.inr ⟨by rfl, rfl⟩) ?_ ?_
               rotate_left
               ·simp only [Act.put, List.setIfInBounds_toArray, List.set_cons_zero, List.set_cons_succ, i64_w, i32_w]
                rfl
               refine pure_ (i := 7) (N := some 59) (v := undef) (a' := ?_) #[true, true, true, true, true, true, true, true, false, false, false, false, false, false, false] rfl rfl (any_of HT_.out (by kernel_rfl)) (fun _ _ _ h => h) (Or.inr ⟨by rfl, rfl⟩) ?_ ?_
               rotate_left
               ·simp only [Act.put, List.setIfInBounds_toArray, List.set_cons_zero, List.set_cons_succ, i64_w, i32_w]
                rfl
               refine pure_ (i := 8) (N := some 60) (v := undef) (a' := ?_) #[true, true, true, true, true, true, true, true, true, false, false, false, false, false, false] rfl rfl (any_of HT_.out (by kernel_rfl)) (fun _ _ _ h => h) (Or.inr ⟨by rfl, rfl⟩) ?_ ?_
               rotate_left
               ·simp only [Act.put, List.setIfInBounds_toArray, List.set_cons_zero, List.set_cons_succ, i64_w, i32_w]
                rfl
               refine pure_ (i := 9) (N := some 61) (v := undef) (a' := ?_) #[true, true, true, true, true, true, true, true, true, true, false, false, false, false, false] rfl rfl (any_of HT_.out (by kernel_rfl)) (fun _ _ _ h => h) (Or.inr ⟨by rfl, rfl⟩) ?_ ?_
               rotate_left
               ·simp only [Act.put, List.setIfInBounds_toArray, List.set_cons_zero, List.set_cons_succ, i64_w, i32_w]
                rfl
               refine pure_ (i := 10) (N := some 62) (v := undef) (a' := ?_) #[true, true, true, true, true, true, true, true, true, true, true, false, false, false, false] rfl rfl (any_of HT_.out (by kernel_rfl)) (fun _ _ _ h => h) (Or.inr ⟨by rfl, rfl⟩) ?_ ?_
               rotate_left
               ·simp only [Act.put, List.setIfInBounds_toArray, List.set_cons_zero, List.set_cons_succ, i64_w, i32_w]
                rfl
               refine pure_ (i := 11) (N := some 63) (v := undef) (a' := ?_) #[true, true, true, true, true, true, true, true, true, true, true, true, false, false, false] rfl rfl (any_of HT_.out (by kernel_rfl)) (fun _ _ _ h => h) (Or.inr ⟨by rfl, rfl⟩) ?_ ?_
               rotate_left
               ·simp only [Act.put, List.setIfInBounds_toArray, List.set_cons_zero, List.set_cons_succ, i64_w, i32_w]
                rfl
               refine pure_ (i := 12) (N := some 64) (v := undef) (a' := ?_) #[true, true, true, true, true, true, true, true, true, true, true, true, true, false, false] rfl rfl (any_of HT_.out (by kernel_rfl)) (fun _ _ _ h => h) (Or.inr ⟨by rfl, rfl⟩) ?_ ?_
               rotate_left
               ·simp only [Act.put, List.setIfInBounds_toArray, List.set_cons_zero, List.set_cons_succ, i64_w, i32_w]
                rfl
               refine pure_ (i := 13) (N := some 65) (v := undef) (a' := ?_) #[true, true, true, true, true, true, true, true, true, true, true, true, true, true, false] rfl rfl (any_of HT_.out (by kernel_rfl)) (fun _ _ _ h => h) (Or.inr ⟨by rfl, rfl⟩) ?_ ?_
               rotate_left
               ·simp only [Act.put, List.setIfInBounds_toArray, List.set_cons_zero, List.set_cons_succ, i64_w, i32_w]
                rfl
               refine pure_ (i := 14) (N := some 66) (v := ?_) (a' := ?_) #[true, true, true, true, true, true, true, true, true, true, true, true, true, true, true] rfl rfl (any_of HT_.out (by kernel_rfl)) (fun _ _ _ h => h) (Or.inl ⟨by rfl, ?_⟩) ?_ ?_
               rotate_left
               ·intro w'
                go_simp
                with_reducible rfl
               rotate_left
               ·simp only [Act.put, List.setIfInBounds_toArray, List.set_cons_zero, List.set_cons_succ, i64_w, i32_w]
                rfl
               refine done_ (done_of HT_.out (by kernel_rfl)) ?_
               obtain ⟨Ao45, co45, eo45⟩ := Kd.N_slice HO_12.out
               subst eo45
               try go_wp2
               have n0_ := Aside0.mk (Kd.N_drew HO_11.out)
               have n1_ := Aside0.mk (Kd.N_drew HO_12.out)
               have n2_ := Aside0.mk (Kd.R_drew HO_13.out)
               have n3_ := Aside0.mk (below_drew1 HB.out)
               clear HO_11
               clear HO_12
               clear HO_13
               clear HB
               have HO_11 := n0_
               have HO_12 := n1_
               have HO_13 := n2_
               have HB := n3_
               clear n0_ n1_ n2_ n3_
               obtain ⟨Ao47, co47, eo47⟩ := Kd.N_slice HO_11.out
               (first | subst eo47 | (injection eo47 with f1_ f2_ f3_; have f4_ := f1_.symm; have f5_ := f3_.symm; clear f1_ f2_ f3_; subst f4_; subst f5_))
               have p374 : 0 ≤ (x45_2 : Int) := of_decide_eq_true (by assumption)
               have q374 : x45_2 < (t354.length : Int) := of_decide_eq_true (by assumption)
               obtain ⟨ad374, A374_0, c374_0, e374, hx374_0, hl374_0, hi374_0⟩ := at_L3 (Kd.N_reads' HO_11.out).2.2 x45_2 p374 q374
               cases e374
               obtain ⟨ce374, hce374, hMe374, hcc374⟩ := Kd.N_get HO_11.out [] x45_2 p374 (by first | exact q374 | exact of_decide_eq_true (by assumption) | (have e_ := (Kd.N_reads' HO_11.out).1; omega))
               obtain ⟨ua374_0, uc374_0, rfl, ul374_0, ge374_0⟩ := Kd.FK_slice_open hMe374
               have hv374_0 := hcc374 0 _ rfl
               rw [Nat.add_zero, show ((Kd.slice 3 (Kd.int .i64))).sz = 1 from rfl, Nat.mul_one] at hv374_0
               replace hv374_0 := Option.some.inj (hv374_0.symm.trans hx374_0)
               injection hv374_0 with hva_ hvn_ hvc_
               rw [hva_] at ge374_0
               rw [hvc_] at ul374_0
               have HL374_0 := Aside0.mk (show Kd.V (Kd.int .i64) 3 _ w.heap.size _ _ (rd_L3 t354 x45_2) from Kd.V_mk ul374_0 ge374_0)
               clear hva_ hvn_ hvc_ ge374_0 ul374_0
               clear hcc374 hce374
               have HR374_0 := Aside0.mk hi374_0
               have HC374_0 := Aside0.mk hl374_0
               clear hi374_0 hl374_0
               replace p374 := eq_true p374
               replace q374 := eq_true q374
               have p381 : 0 ≤ (x45_2 : Int) := of_decide_eq_true (by assumption)
               have q381 : x45_2 < (l1.length : Int) := of_decide_eq_true (by assumption)
               obtain ⟨ad381, e381, hx381_0⟩ := Kd.at_string HR1.out x45_2 p381 q381
               have hw381_0 := hx381_0
               cases e381
               replace hx381_0 := (HB.out.cell (World.block_lt_of_cell? w _ hx381_0)).trans hx381_0
               replace p381 := eq_true p381
               replace q381 := eq_true q381
               refine start_ (n := 16) (S := fun w' => w'.cell? (ad374.add (x45_2).toNat) = some (.slice A374_0 (rd_L3 t354 x45_2).length c374_0) ∧ w'.cell? (ad381.add (x45_2).toNat) = some (.string (rdOf ByteArray.empty l1 x45_2))) (ds := []) #[false, false, false, false, false, false, false, false, false, false, false, false, false, false, false, false] (by kernel_rfl) rfl rfl ⟨hx374_0, ((HB.out.cell (World.block_lt_of_cell? w _ hw381_0)).trans hw381_0)⟩ (fun hHeld => ?_); refine with_tabW impl_Decode.tab13 impl_Decode.bits13 (fun HT_ HW_ => ?_)
               generalize w43.drew = w46 at HO_11 HO_12 HO_13 HB HL374_0 HR374_0 hx374_0 hx381_0 hHeld ⊢
               refine pure_ (i := 0) (N := some 67) (v := ?_) (a' := ?_) #[true, false, false, false, false, false, false, false, false, false, false, false, false, false, false, false] rfl rfl (any_of HT_.out (by kernel_rfl)) (fun _ _ _ h => h) (Or.inl ⟨by rfl, ?_⟩) ?_ ?_
               rotate_left
               ·intro w'
                go_simp
                with_reducible rfl
               rotate_left
               ·simp only [Act.put, List.setIfInBounds_toArray, List.set_cons_zero, List.set_cons_succ, i64_w, i32_w]
                rfl
               refine pure_ (i := 1) (N := some 68) (v := ?_) (a' := ?_) #[true, true, false, false, false, false, false, false, false, false, false, false, false, false, false, false] rfl rfl (any_of HT_.out (by kernel_rfl)) (fun _ _ _ h => h) (Or.inl ⟨by rfl, ?_⟩) ?_ ?_
               rotate_left
               ·intro w'
                go_simp
                with_reducible rfl
               rotate_left
               ·simp only [Act.put, List.setIfInBounds_toArray, List.set_cons_zero, List.set_cons_succ, i64_w, i32_w]
                rfl
               refine pure_ (i := 2) (N := some 69) (v := ?_) (a' := ?_) #[true, true, true, false, false, false, false, false, false, false, false, false, false, false, false, false] rfl rfl (any_of HT_.out (by kernel_rfl)) (fun _ _ _ h => h) (Or.inl ⟨by rfl, ?_⟩) ?_ ?_
               rotate_left
               ·intro w'
                go_simp
                with_reducible rfl
               rotate_left
               ·simp only [Act.put, List.setIfInBounds_toArray, List.set_cons_zero, List.set_cons_succ, i64_w, i32_w]
                rfl
               refine pure_ (i := 3) (N := some 70) (v := ?_) (a' := ?_) #[true, true, true, true, false, false, false, false, false, false, false, false, false, false, false, false] rfl rfl (any_of HT_.out (by kernel_rfl)) (fun _ _ _ h => h) (Or.inl ⟨by rfl, ?_⟩) ?_ ?_
               rotate_left
               ·intro w'
                go_simp
                with_reducible rfl
               rotate_left
               ·simp only [Act.put, List.setIfInBounds_toArray, List.set_cons_zero, List.set_cons_succ, i64_w, i32_w]
                rfl
               refine pure_ (i := 7) (N := some 74) (v := ?_) (a' := ?_) #[true, true, true, true, false, false, false, true, false, false, false, false, false, false, false, false] rfl rfl (any_of HT_.out (by kernel_rfl)) (fun _ _ _ h => h) (Or.inl ⟨by rfl, ?_⟩) ?_ ?_
               rotate_left
               ·intro w'
                go_simp
                with_reducible rfl
               rotate_left
               ·simp only [Act.put, List.setIfInBounds_toArray, List.set_cons_zero, List.set_cons_succ, i64_w, i32_w]
                rfl
               refine pure_ (i := 8) (N := some 75) (v := ?_) (a' := ?_) #[true, true, true, true, false, false, false, true, true, false, false, false, false, false, false, false] rfl rfl (any_of HT_.out (by kernel_rfl)) (fun _ _ _ h => h) (Or.inl ⟨by rfl, ?_⟩) ?_ ?_
               rotate_left
               ·intro w'
                go_simp
                with_reducible rfl
               rotate_left
               ·simp only [Act.put, List.setIfInBounds_toArray, List.set_cons_zero, List.set_cons_succ, i64_w, i32_w]
                rfl
               refine pure_ (i := 9) (N := some 76) (v := ?_) (a' := ?_) #[true, true, true, true, false, false, false, true, true, true, false, false, false, false, false, false] rfl rfl (any_of HT_.out (by kernel_rfl)) (fun _ _ _ h => h) (Or.inl ⟨by rfl, ?_⟩) ?_ ?_
               rotate_left
               ·intro w'
                go_simp
                with_reducible rfl
               rotate_left
               ·simp only [Act.put, List.setIfInBounds_toArray, List.set_cons_zero, List.set_cons_succ, i64_w, i32_w]
                rfl
               refine pure_ (i := 10) (N := some 77) (v := ?_) (a' := ?_) #[true, true, true, true, false, false, false, true, true, true, true, false, false, false, false, false] rfl rfl (any_of HT_.out (by kernel_rfl)) (fun _ _ _ h => h) (Or.inl ⟨by rfl, ?_⟩) ?_ ?_
               rotate_left
               ·intro w'
                go_simp
                with_reducible rfl
               rotate_left
               ·simp only [Act.put, List.setIfInBounds_toArray, List.set_cons_zero, List.set_cons_succ, i64_w, i32_w]
                rfl
               refine take_ (i := 4) (N := some 71) (v := ?_) (a' := ?_) #[true, true, true, true, true, false, false, true, true, true, true, false, false, false, false, false] rfl rfl (take_ofW HT_.out HW_.out (by kernel_rfl)) (fun _ _ _ h => h) (Or.inl ⟨by rfl, ?_⟩) hHeld ?_ ?_
               rotate_left
               ·rintro w' ⟨s0, s1⟩
                go_simp
                with_reducible rfl
               rotate_left
               ·simp only [Act.put, List.setIfInBounds_toArray, List.set_cons_zero, List.set_cons_succ, i64_w, i32_w]
                rfl
               refine take_ (i := 11) (N := some 78) (v := ?_) (a' := ?_) #[true, true, true, true, true, false, false, true, true, true, true, true, false, false, false, false] rfl rfl (take_ofW HT_.out HW_.out (by kernel_rfl)) (fun _ _ _ h => h) (Or.inl ⟨by rfl, ?_⟩) hHeld ?_ ?_
               rotate_left
               ·rintro w' ⟨s0, s1⟩
                go_simp
                with_reducible rfl
               rotate_left
               ·simp only [Act.put, List.setIfInBounds_toArray, List.set_cons_zero, List.set_cons_succ, i64_w, i32_w]
                rfl
               refine join_ (σ := Value × Value × Value) 3 #[true, true, true, true, true, true, true, true, true, true, true, true, true, false, false, false] (fun s_ => [(72, s_.1), (73, s_.2.1), (79, s_.2.2)]) (fun s_ w' => (w'.cell? (ad374.add (x45_2).toNat) = some (.slice A374_0 (rd_L3 t354 x45_2).length c374_0) ∧ w'.cell? (ad381.add (x45_2).toNat) = some (.string (rdOf ByteArray.empty l1 x45_2))) ∧ (Kd.V (Kd.int .i64) 3 w' w.heap.size (fun k_ => some k_ ≠ (s_.1 : Value).ownBlock ∧ some k_ ≠ (s_.2.1 : Value).ownBlock ∧ some k_ ≠ (s_.2.2 : Value).ownBlock ∧ some k_ ≠ (.slice (some ad374) t354.length co47 : Value).ownBlock ∧ some k_ ≠ (.slice Ao44 x13_2.length co44 : Value).ownBlock) (.slice A374_0 (rd_L3 t354 x45_2).length c374_0) (rd_L3 t354 x45_2)) ∧ (Kd.N (Kd.slice 3 (Kd.int .i64)) 32 w' w.heap.size (fun k_ => some k_ ≠ (s_.2.1 : Value).ownBlock ∧ some k_ ≠ (s_.2.2 : Value).ownBlock ∧ some k_ ≠ (.slice (some ad374) t354.length co47 : Value).ownBlock ∧ some k_ ≠ (.slice Ao44 x13_2.length co44 : Value).ownBlock) s_.1 y375) ∧ (Kd.N (Kd.slice 3 (Kd.int .i64)) 32 w' w.heap.size (fun k_ => some k_ ≠ (s_.2.2 : Value).ownBlock ∧ some k_ ≠ (.slice (some ad374) t354.length co47 : Value).ownBlock ∧ some k_ ≠ (.slice Ao44 x13_2.length co44 : Value).ownBlock) s_.2.1 y378) ∧ (Kd.R Kd.string 9 w' w.heap.size (fun k_ => some k_ ≠ (.slice Ao44 x13_2.length co44 : Value).ownBlock) s_.2.2 y382) ∧ (Kd.N (Kd.slice 3 (Kd.int .i64)) 32 w' w.heap.size (fun k_ => some k_ ≠ (s_.1 : Value).ownBlock ∧ some k_ ≠ (s_.2.1 : Value).ownBlock ∧ some k_ ≠ (s_.2.2 : Value).ownBlock ∧ some k_ ≠ (.slice Ao44 x13_2.length co44 : Value).ownBlock) (.slice (some ad374) t354.length co47) t354) ∧ (Kd.R Kd.string 9 w' w.heap.size (fun k_ => some k_ ≠ (s_.2.2 : Value).ownBlock) (.slice Ao44 x13_2.length co44) x13_2) ∧ (Below w.heap.size w w')) ?_ ?_
               rotate_left
               ·intro hCont
                refine two_ (i := 5) (j := 12) (Ni := some 72) (Nj := some 79) #[true, true, true, true, true, true, false, true, true, true, true, true, false, false, false, false] #[true, true, true, true, true, false, false, true, true, true, true, true, true, false, false, false] rfl rfl rfl rfl (two_of HT_.out (by kernel_rfl)) (by decide) (by decide) (fun K hK => ?_) (fun K hK => ?_)
                ·skip
                 refine Kd.N_lit_step (Kd.slice 3 (Kd.int .i64)) _ 32 ?hg (N' := 72) ?hd (xs := ([rd_L3 t354 x45_2] : List (List Int))) (inner := [.slice A374_0 (rd_L3 t354 x45_2).length c374_0]) (ok := (fun k_ => some k_ ≠ (.slice (some ad374) t354.length co47 : Value).ownBlock ∧ some k_ ≠ (.slice Ao45 x12_2.length co45 : Value).ownBlock ∧ some k_ ≠ (.slice Ao44 x13_2.length co44 : Value).ownBlock)) (okp := (fun k_ => some k_ ≠ (.slice (some ad374) t354.length co47 : Value).ownBlock ∧ some k_ ≠ (.slice Ao45 x12_2.length co45 : Value).ownBlock ∧ some k_ ≠ (.slice Ao44 x13_2.length co44 : Value).ownBlock)) ?hr ?hp (fun _ hk => hk) ((show ∀ k_, w46.heap.size ≤ k_ → (fun k_ => some k_ ≠ (.slice (some ad374) t354.length co47 : Value).ownBlock ∧ some k_ ≠ (.slice Ao45 x12_2.length co45 : Value).ownBlock ∧ some k_ ≠ (.slice Ao44 x13_2.length co44 : Value).ownBlock) k_ from fun k_ hk => ⟨Kd.fresh' (Kd.N_lt (by exact HO_11.out)) k_ hk, Kd.fresh' (Kd.N_lt (by exact HO_12.out)) k_ hk, Kd.fresh' (Kd.R_lt (by exact HO_13.out)) k_ hk⟩) _ (Nat.le_refl _)) (Below.refl _ _) (Nat.le_refl _) (by simp) ?_; (case hd => rfl); (case hg => rfl); (case hr => first | (go_simp; done) | (go_simp; rfl)); (case hp => exact (Reps.one (show Kd.FK (Kd.slice 3 (Kd.int .i64)) _ _ (rd_L3 t354 x45_2) [.slice A374_0 (rd_L3 t354 x45_2).length c374_0] from (Kd.FK_slice_mk (Kd.V_reads' (Kd.V_mono (ok' := (fun k_ => some k_ ≠ (.slice (some ad374) t354.length co47 : Value).ownBlock ∧ some k_ ≠ (.slice Ao45 x12_2.length co45 : Value).ownBlock ∧ some k_ ≠ (.slice Ao44 x13_2.length co44 : Value).ownBlock)) (HL374_0.out) (fun k_ hk => ⟨hk.2, ⟨hk.1.1, hk.1.2⟩⟩))).2.1 (Kd.V_F (Kd.V_mono (ok' := (fun k_ => some k_ ≠ (.slice (some ad374) t354.length co47 : Value).ownBlock ∧ some k_ ≠ (.slice Ao45 x12_2.length co45 : Value).ownBlock ∧ some k_ ≠ (.slice Ao44 x13_2.length co44 : Value).ownBlock)) (HL374_0.out) (fun k_ hk => ⟨hk.2, ⟨hk.1.1, hk.1.2⟩⟩))))) (Reps.none _ _)))
                 intro v376 w48 ho49 hb hg_ hnew_
                 have HS0_ := (hb.cell (World.block_lt_of_cell? _ _ (hHeld.1))).trans (hHeld.1)
                 clear hg_ hnew_
                 (first | rw [← Ny375.out] at ho49 | (simp only [Int.reduceToNat] at ho49; rw [← Ny375.out] at ho49))
                 have n0_ := Aside0.mk (Kd.N_elder' (by exact HO_11.out) (Kd.N_base ho49) hb)
                 have n1_ := Aside0.mk (Kd.N_elder' (by exact HO_12.out) (Kd.N_base ho49) hb)
                 have n2_ := Aside0.mk (Kd.R_below (by exact HO_13.out) hb)
                 have n3_ := Aside0.mk (Kd.V_elder' (by exact HL374_0.out) (Kd.N_base ho49) hb)
                 have n4_ := Aside0.mk (Kd.N_lower ho49 (below_size (by repeat (first | exact HB.out | apply below_alloc | apply pw_below_drewN | apply below_drew1))))
                 have n5_ := Aside0.mk (Kd.C_below (by repeat (first | (with_reducible exact HR374_0.out) | (with_reducible refine Kd.C_alloc ?_ _) | (with_reducible refine Kd.C_drewN ?_ _) | (with_reducible refine Kd.C_drew ?_) | exact HR374_0.out)) hb)
                 have n6_ := Aside0.mk (below_step (by repeat (first | exact HB.out | apply below_alloc | apply pw_below_drewN | apply below_drew1)) hb)
                 clear HO_11
                 clear HO_12
                 clear HO_13
                 clear HL374_0
                 clear HR374_0
                 clear HB
                 have HO_11 := n0_
                 have HO_12 := n1_
                 have HO_13 := n2_
                 have HL374_0 := n3_
                 have HO377 := n4_
                 have HR374_0 := n5_
                 have HB := n6_
                 clear n0_ n1_ n2_ n3_ n4_ n5_ n6_
                 clear hb ho49
                 obtain ⟨Ao51, co51, eo51⟩ := Kd.N_slice HO377.out
                 (first | subst eo51 | (injection eo51 with f1_ f2_ f3_; have f4_ := f1_.symm; have f5_ := f3_.symm; clear f1_ f2_ f3_; subst f4_; subst f5_))
                 refine hK.out _ _ ⟨HS0_, ((HB.out.cell (World.block_lt_of_cell? w _ hw381_0)).trans hw381_0)⟩ (fun hHeld => ?_)
                 clear hK K
                 refine norm_ (a' := ?_) ?_ ?_
                 rotate_left
                 ·show Act.put _ (some 72) _ = _
                  simp only [Act.put, List.setIfInBounds_toArray, List.set_cons_zero, List.set_cons_succ, i64_w, i32_w]
                  rfl
                 refine two_ (i := 6) (j := 12) (Ni := some 73) (Nj := some 79) #[true, true, true, true, true, true, true, true, true, true, true, true, false, false, false, false] #[true, true, true, true, true, true, false, true, true, true, true, true, true, false, false, false] rfl rfl rfl rfl (two_of HT_.out (by kernel_rfl)) (by decide) (by decide) (fun K hK => ?_) (fun K hK => ?_)
                 ·skip
                  refine Kd.N_append_rows_step (Kd.slice 3 (Kd.int .i64)) (w0 := w) w.heap.size (by rfl) (.tmp 67) (.tmp 72) 49 32 (.slice none 0 0) 24 rfl Try.underlying49 info32 rfl (by decide) (by omega) (.slice Ao45 x12_2.length co45) x12_2 y375 _ _ _ (fun k_ => some k_ ≠ (.slice (some ad374) t354.length co47 : Value).ownBlock ∧ some k_ ≠ (.slice Ao44 x13_2.length co44 : Value).ownBlock) (fun k_ => ((fun k_ => some k_ ≠ (.slice (some ad374) t354.length co47 : Value).ownBlock ∧ some k_ ≠ (.slice Ao44 x13_2.length co44 : Value).ownBlock)) k_ ∧ some k_ ≠ (.slice Ao45 x12_2.length co45 : Value).ownBlock) rfl rfl ?aO ?aR (fun _ hk => hk) ?aF ?aB ?aS ?aL ?_
                  (case aR => exact (by skip; exact Kd.N_F (Kd.N_mono (ok' := (fun k_ => ((fun k_ => some k_ ≠ (.slice (some ad374) t354.length co47 : Value).ownBlock ∧ some k_ ≠ (.slice Ao44 x13_2.length co44 : Value).ownBlock)) k_ ∧ some k_ ≠ (.slice Ao45 x12_2.length co45 : Value).ownBlock)) (HO377.out) (fun k_ hk => ⟨⟨hk.1, hk.2.2⟩, hk.2.1⟩))))
                  (case aB => exact (by repeat (first | exact HB.out | apply below_alloc | apply pw_below_drewN | apply below_drew1)))
                  (case aF => exact (fun k_ hk => ⟨Kd.fresh' (Kd.N_lt (by exact HO_11.out)) k_ hk, Kd.fresh' (Kd.R_lt (by exact HO_13.out)) k_ hk⟩))
                  (case aO => exact (by exact Kd.N_mono HO_12.out (fun _ hk => ⟨hk.1.1, hk.1.2⟩)))
                  (case aS => exact (below_size (by repeat (first | exact HB.out | apply below_alloc | apply pw_below_drewN | apply below_drew1))))
                  (case aL => have := LMc40.out; omega)
                  intro v379 w50 ho hb hg hat
                  have HS0_ := cell_grown hg (hHeld.1) (by have h_ := HO_11.out.1 _ rfl; first | (rw [add_block]; first | exact h_ | exact h_.1 | exact h_.2 | exact h_.1.1 | exact h_.1.2 | exact h_.2.1 | exact h_.2.2 | exact h_.1.1.1 | exact h_.1.1.2 | exact h_.1.2.1 | exact h_.1.2.2 | exact h_.2.1.1 | exact h_.2.1.2 | exact h_.2.2.1 | exact h_.2.2.2 | exact h_.1.1.1.1 | exact h_.1.1.1.2 | exact h_.1.1.2.1 | exact h_.1.1.2.2 | exact h_.1.2.1.1 | exact h_.1.2.1.2 | exact h_.1.2.2.1 | exact h_.1.2.2.2 | exact h_.2.1.1.1 | exact h_.2.1.1.2 | exact h_.2.1.2.1 | exact h_.2.1.2.2 | exact h_.2.2.1.1 | exact h_.2.2.1.2 | exact h_.2.2.2.1 | exact h_.2.2.2.2) | (show some (Addr.add _ _).block ≠ _; rw [add_block]; first | exact h_ | exact h_.1 | exact h_.2 | exact h_.1.1 | exact h_.1.2 | exact h_.2.1 | exact h_.2.2 | exact h_.1.1.1 | exact h_.1.1.2 | exact h_.1.2.1 | exact h_.1.2.2 | exact h_.2.1.1 | exact h_.2.1.2 | exact h_.2.2.1 | exact h_.2.2.2 | exact h_.1.1.1.1 | exact h_.1.1.1.2 | exact h_.1.1.2.1 | exact h_.1.1.2.2 | exact h_.1.2.1.1 | exact h_.1.2.1.2 | exact h_.1.2.2.1 | exact h_.1.2.2.2 | exact h_.2.1.1.1 | exact h_.2.1.1.2 | exact h_.2.1.2.1 | exact h_.2.1.2.2 | exact h_.2.2.1.1 | exact h_.2.2.1.2 | exact h_.2.2.2.1 | exact h_.2.2.2.2) | (first | exact h_ | exact h_.1 | exact h_.2 | exact h_.1.1 | exact h_.1.2 | exact h_.2.1 | exact h_.2.2 | exact h_.1.1.1 | exact h_.1.1.2 | exact h_.1.2.1 | exact h_.1.2.2 | exact h_.2.1.1 | exact h_.2.1.2 | exact h_.2.2.1 | exact h_.2.2.2 | exact h_.1.1.1.1 | exact h_.1.1.1.2 | exact h_.1.1.2.1 | exact h_.1.1.2.2 | exact h_.1.2.1.1 | exact h_.1.2.1.2 | exact h_.1.2.2.1 | exact h_.1.2.2.2 | exact h_.2.1.1.1 | exact h_.2.1.1.2 | exact h_.2.1.2.1 | exact h_.2.1.2.2 | exact h_.2.2.1.1 | exact h_.2.2.1.2 | exact h_.2.2.2.1 | exact h_.2.2.2.2))
                  rw [← Ny378.out] at ho
                  have n0_ := Aside0.mk (Kd.N_afterv (ok := (fun k_ => some k_ ≠ (.slice Ao44 x13_2.length co44 : Value).ownBlock ∧ some k_ ≠ (.slice Ao51 y375.length co51 : Value).ownBlock)) (by exact Kd.N_mono HO_11.out (fun _ hk => ⟨⟨hk.1.2, hk.2⟩, hk.1.1⟩)) hg hat)
                  have n1_ := Aside0.mk (Kd.R_over' (by exact HO_13.out) (Kd.N_typed (by exact HO_12.out)) (by decide) hg)
                  have n2_ := Aside0.mk (Kd.V_afterv (ok := (fun k_ => some k_ ≠ (.slice (some ad374) t354.length co47 : Value).ownBlock ∧ some k_ ≠ (.slice Ao44 x13_2.length co44 : Value).ownBlock ∧ some k_ ≠ (.slice Ao51 y375.length co51 : Value).ownBlock)) (by exact Kd.V_mono HL374_0.out (fun _ hk => ⟨⟨hk.1.2, ⟨hk.1.1.2, hk.2⟩⟩, hk.1.1.1⟩)) hg hat)
                  have n3_ := Aside0.mk (Kd.N_afterv (ok := (fun k_ => some k_ ≠ (.slice (some ad374) t354.length co47 : Value).ownBlock ∧ some k_ ≠ (.slice Ao44 x13_2.length co44 : Value).ownBlock)) (by exact Kd.N_mono HO377.out (fun _ hk => ⟨⟨hk.1, hk.2.2⟩, hk.2.1⟩)) hg hat)
                  have n4_ := Aside0.mk (hb)
                  have n5_ := Aside0.mk (ho)
                  clear HO_11
                  clear HO_13
                  clear HL374_0
                  clear HO377
                  clear HB
                  clear HO_12
                  have HO_11 := n0_
                  have HO_13 := n1_
                  have HL374_0 := n2_
                  have HO377 := n3_
                  have HB := n4_
                  have HO380 := n5_
                  clear n0_ n1_ n2_ n3_ n4_ n5_
                  clear ho hb hg hat
                  refine hK.out _ _ ⟨HS0_, ((HB.out.cell (World.block_lt_of_cell? w _ hw381_0)).trans hw381_0)⟩ (fun hHeld => ?_)
                  clear hK K
                  refine norm_ (a' := ?_) ?_ ?_
                  rotate_left
                  ·show Act.put _ (some 73) _ = _
                   simp only [Act.put, List.setIfInBounds_toArray, List.set_cons_zero, List.set_cons_succ, i64_w, i32_w]
                   rfl
                  refine one_ (i := 12) (N := some 79) #[true, true, true, true, true, true, true, true, true, true, true, true, true, false, false, false] rfl rfl (one_of HT_.out (by kernel_rfl)) (by decide) (fun K hK => ?_)
                  refine Kd.R_lit_step Kd.string _ 9 ?hg (N := 79) ?hd (xs := ([rdOf ByteArray.empty l1 x45_2] : List ByteArray)) (inner := [.string (rdOf ByteArray.empty l1 x45_2)]) (ok := fun _ => True) (okp := fun _ => True) ?hr ?hp (fun _ hk => hk) trivial (Below.refl _ _) (Nat.le_refl _) (by simp) ?_; (case hd => rfl); (case hg => rfl); (case hr => first | (go_simp; done) | (go_simp; rfl)); (case hp => exact (Reps.one (show Kd.M Kd.string _ _ _ (rdOf ByteArray.empty l1 x45_2) [.string (rdOf ByteArray.empty l1 x45_2)] from rfl) (Reps.none _ _)))
                  intro v383 w52 ho53 hb hg_ hnew_
                  have HS0_ := (hb.cell (World.block_lt_of_cell? _ _ (hHeld.1))).trans (hHeld.1)
                  clear hg_ hnew_
                  (first | rw [← Ny382.out] at ho53 | (simp only [Int.reduceToNat] at ho53; rw [← Ny382.out] at ho53))
                  have n0_ := Aside0.mk (Kd.N_elder' (by exact HO_11.out) (Kd.R_base ho53) hb)
                  have n1_ := Aside0.mk (Kd.R_elder' (by exact HO_13.out) (Kd.R_base ho53) hb)
                  have n2_ := Aside0.mk (Kd.V_elder' (by exact HL374_0.out) (Kd.R_base ho53) hb)
                  have n3_ := Aside0.mk (Kd.N_elder' (by exact HO377.out) (Kd.R_base ho53) hb)
                  have n4_ := Aside0.mk (Kd.N_elder' (by exact HO380.out) (Kd.R_base ho53) hb)
                  have n5_ := Aside0.mk (Kd.R_lower (Kd.R_new' ho53 (Kd.R_lt (by exact HO_13.out))) (below_size (by repeat (first | exact HB.out | apply below_alloc | apply pw_below_drewN | apply below_drew1))))
                  have n6_ := Aside0.mk (below_step (by repeat (first | exact HB.out | apply below_alloc | apply pw_below_drewN | apply below_drew1)) hb)
                  clear HO_11
                  clear HO_13
                  clear HL374_0
                  clear HO377
                  clear HO380
                  clear HB
                  have HO_11 := n0_
                  have HO_13 := n1_
                  have HL374_0 := n2_
                  have HO377 := n3_
                  have HO380 := n4_
                  have HO384 := n5_
                  have HB := n6_
                  clear n0_ n1_ n2_ n3_ n4_ n5_ n6_
                  clear hb ho53
                  refine hK.out _ _ ⟨HS0_, ((HB.out.cell (World.block_lt_of_cell? w _ hw381_0)).trans hw381_0)⟩ (fun hHeld => ?_)
                  clear hK K
                  refine norm_ (a' := ?_) ?_ ?_
                  rotate_left
                  ·show Act.put _ (some 79) _ = _
                   simp only [Act.put, List.setIfInBounds_toArray, List.set_cons_zero, List.set_cons_succ, i64_w, i32_w]
                   rfl
                  exact norm_ (by simp only [putAll, Act.put, List.setIfInBounds_toArray, List.set_cons_zero, List.set_cons_succ]) (hCont (.slice Ao51 y375.length co51, v379, v383) _ ⟨hHeld, (by exact Kd.V_mono HL374_0.out (fun _ hk => ⟨hk.1.1.2.2, ⟨hk.1.2, ⟨hk.2, ⟨hk.1.1.1, hk.1.1.2.1⟩⟩⟩⟩)), (by exact Kd.N_mono HO377.out (fun _ hk => ⟨hk.1.2, ⟨hk.2, ⟨hk.1.1.1, hk.1.1.2⟩⟩⟩)), (by exact Kd.N_mono HO380.out (fun _ hk => ⟨hk.2, ⟨hk.1.1, hk.1.2⟩⟩)), (by exact Kd.R_mono HO384.out (fun _ hk => hk.2)), (by exact Kd.N_mono HO_11.out (fun _ hk => ⟨hk.1.1.2, ⟨hk.1.2, ⟨hk.2, hk.1.1.1⟩⟩⟩)), (by exact Kd.R_mono HO_13.out (fun _ hk => hk.2)), (by repeat (first | exact HB.out | apply below_alloc | apply pw_below_drewN | apply below_drew1))⟩)
                 ·skip
                  refine Kd.R_lit_step Kd.string _ 9 ?hg (N := 79) ?hd (xs := ([rdOf ByteArray.empty l1 x45_2] : List ByteArray)) (inner := [.string (rdOf ByteArray.empty l1 x45_2)]) (ok := fun _ => True) (okp := fun _ => True) ?hr ?hp (fun _ hk => hk) trivial (Below.refl _ _) (Nat.le_refl _) (by simp) ?_; (case hd => rfl); (case hg => rfl); (case hr => first | (go_simp; done) | (go_simp; rfl)); (case hp => exact (Reps.one (show Kd.M Kd.string _ _ _ (rdOf ByteArray.empty l1 x45_2) [.string (rdOf ByteArray.empty l1 x45_2)] from rfl) (Reps.none _ _)))
                  intro v383 w50 ho51 hb hg_ hnew_
                  have HS0_ := (hb.cell (World.block_lt_of_cell? _ _ (hHeld.1))).trans (hHeld.1)
                  clear hg_ hnew_
                  (first | rw [← Ny382.out] at ho51 | (simp only [Int.reduceToNat] at ho51; rw [← Ny382.out] at ho51))
                  have n0_ := Aside0.mk (Kd.N_elder' (by exact HO_11.out) (Kd.R_base ho51) hb)
                  have n1_ := Aside0.mk (Kd.N_elder' (by exact HO_12.out) (Kd.R_base ho51) hb)
                  have n2_ := Aside0.mk (Kd.R_elder' (by exact HO_13.out) (Kd.R_base ho51) hb)
                  have n3_ := Aside0.mk (Kd.V_elder' (by exact HL374_0.out) (Kd.R_base ho51) hb)
                  have n4_ := Aside0.mk (Kd.N_elder' (by exact HO377.out) (Kd.R_base ho51) hb)
                  have n5_ := Aside0.mk (Kd.R_lower (Kd.R_new' ho51 (Kd.R_lt (by exact HO_13.out))) (below_size (by repeat (first | exact HB.out | apply below_alloc | apply pw_below_drewN | apply below_drew1))))
                  have n6_ := Aside0.mk (Kd.C_below (by repeat (first | (with_reducible exact HR374_0.out) | (with_reducible refine Kd.C_alloc ?_ _) | (with_reducible refine Kd.C_drewN ?_ _) | (with_reducible refine Kd.C_drew ?_) | exact HR374_0.out)) hb)
                  have n7_ := Aside0.mk (below_step (by repeat (first | exact HB.out | apply below_alloc | apply pw_below_drewN | apply below_drew1)) hb)
                  clear HO_11
                  clear HO_12
                  clear HO_13
                  clear HL374_0
                  clear HO377
                  clear HR374_0
                  clear HB
                  have HO_11 := n0_
                  have HO_12 := n1_
                  have HO_13 := n2_
                  have HL374_0 := n3_
                  have HO377 := n4_
                  have HO384 := n5_
                  have HR374_0 := n6_
                  have HB := n7_
                  clear n0_ n1_ n2_ n3_ n4_ n5_ n6_ n7_
                  clear hb ho51
                  obtain ⟨Ao53, co53, eo53⟩ := Kd.N_slice HO377.out
                  (first | subst eo53 | (injection eo53 with f1_ f2_ f3_; have f4_ := f1_.symm; have f5_ := f3_.symm; clear f1_ f2_ f3_; subst f4_; subst f5_))
                  refine hK.out _ _ ⟨HS0_, ((HB.out.cell (World.block_lt_of_cell? w _ hw381_0)).trans hw381_0)⟩ (fun hHeld => ?_)
                  clear hK K
                  refine norm_ (a' := ?_) ?_ ?_
                  rotate_left
                  ·show Act.put _ (some 79) _ = _
                   simp only [Act.put, List.setIfInBounds_toArray, List.set_cons_zero, List.set_cons_succ, i64_w, i32_w]
                   rfl
                  refine one_ (i := 6) (N := some 73) #[true, true, true, true, true, true, true, true, true, true, true, true, true, false, false, false] rfl rfl (one_of HT_.out (by kernel_rfl)) (by decide) (fun K hK => ?_)
                  refine Kd.N_append_rows_step (Kd.slice 3 (Kd.int .i64)) (w0 := w) w.heap.size (by rfl) (.tmp 67) (.tmp 72) 49 32 (.slice none 0 0) 24 rfl Try.underlying49 info32 rfl (by decide) (by omega) (.slice Ao45 x12_2.length co45) x12_2 y375 _ _ _ (fun k_ => some k_ ≠ (.slice (some ad374) t354.length co47 : Value).ownBlock ∧ some k_ ≠ (.slice Ao44 x13_2.length co44 : Value).ownBlock ∧ some k_ ≠ (v383 : Value).ownBlock) (fun k_ => ((fun k_ => some k_ ≠ (.slice (some ad374) t354.length co47 : Value).ownBlock ∧ some k_ ≠ (.slice Ao44 x13_2.length co44 : Value).ownBlock ∧ some k_ ≠ (v383 : Value).ownBlock)) k_ ∧ some k_ ≠ (.slice Ao45 x12_2.length co45 : Value).ownBlock) rfl rfl ?aO ?aR (fun _ hk => hk) ?aF ?aB ?aS ?aL ?_
                  (case aR => exact (by skip; exact Kd.N_F (Kd.N_mono (ok' := (fun k_ => ((fun k_ => some k_ ≠ (.slice (some ad374) t354.length co47 : Value).ownBlock ∧ some k_ ≠ (.slice Ao44 x13_2.length co44 : Value).ownBlock ∧ some k_ ≠ (v383 : Value).ownBlock)) k_ ∧ some k_ ≠ (.slice Ao45 x12_2.length co45 : Value).ownBlock)) (HO377.out) (fun k_ hk => ⟨⟨hk.1.1, ⟨hk.1.2.2, hk.2⟩⟩, hk.1.2.1⟩))))
                  (case aB => exact (by repeat (first | exact HB.out | apply below_alloc | apply pw_below_drewN | apply below_drew1)))
                  (case aF => exact (fun k_ hk => ⟨Kd.fresh' (Kd.N_lt (by exact HO_11.out)) k_ hk, Kd.fresh' (Kd.R_lt (by exact HO_13.out)) k_ hk, Kd.fresh' (Kd.R_lt (by exact HO384.out)) k_ hk⟩))
                  (case aO => exact (by exact Kd.N_mono HO_12.out (fun _ hk => ⟨hk.1.1.1, ⟨hk.1.1.2, hk.2⟩⟩)))
                  (case aS => exact (below_size (by repeat (first | exact HB.out | apply below_alloc | apply pw_below_drewN | apply below_drew1))))
                  (case aL => have := LMc40.out; omega)
                  intro v379 w52 ho hb hg hat
                  have HS0_ := cell_grown hg (hHeld.1) (by have h_ := HO_11.out.1 _ rfl; first | (rw [add_block]; first | exact h_ | exact h_.1 | exact h_.2 | exact h_.1.1 | exact h_.1.2 | exact h_.2.1 | exact h_.2.2 | exact h_.1.1.1 | exact h_.1.1.2 | exact h_.1.2.1 | exact h_.1.2.2 | exact h_.2.1.1 | exact h_.2.1.2 | exact h_.2.2.1 | exact h_.2.2.2 | exact h_.1.1.1.1 | exact h_.1.1.1.2 | exact h_.1.1.2.1 | exact h_.1.1.2.2 | exact h_.1.2.1.1 | exact h_.1.2.1.2 | exact h_.1.2.2.1 | exact h_.1.2.2.2 | exact h_.2.1.1.1 | exact h_.2.1.1.2 | exact h_.2.1.2.1 | exact h_.2.1.2.2 | exact h_.2.2.1.1 | exact h_.2.2.1.2 | exact h_.2.2.2.1 | exact h_.2.2.2.2) | (show some (Addr.add _ _).block ≠ _; rw [add_block]; first | exact h_ | exact h_.1 | exact h_.2 | exact h_.1.1 | exact h_.1.2 | exact h_.2.1 | exact h_.2.2 | exact h_.1.1.1 | exact h_.1.1.2 | exact h_.1.2.1 | exact h_.1.2.2 | exact h_.2.1.1 | exact h_.2.1.2 | exact h_.2.2.1 | exact h_.2.2.2 | exact h_.1.1.1.1 | exact h_.1.1.1.2 | exact h_.1.1.2.1 | exact h_.1.1.2.2 | exact h_.1.2.1.1 | exact h_.1.2.1.2 | exact h_.1.2.2.1 | exact h_.1.2.2.2 | exact h_.2.1.1.1 | exact h_.2.1.1.2 | exact h_.2.1.2.1 | exact h_.2.1.2.2 | exact h_.2.2.1.1 | exact h_.2.2.1.2 | exact h_.2.2.2.1 | exact h_.2.2.2.2) | (first | exact h_ | exact h_.1 | exact h_.2 | exact h_.1.1 | exact h_.1.2 | exact h_.2.1 | exact h_.2.2 | exact h_.1.1.1 | exact h_.1.1.2 | exact h_.1.2.1 | exact h_.1.2.2 | exact h_.2.1.1 | exact h_.2.1.2 | exact h_.2.2.1 | exact h_.2.2.2 | exact h_.1.1.1.1 | exact h_.1.1.1.2 | exact h_.1.1.2.1 | exact h_.1.1.2.2 | exact h_.1.2.1.1 | exact h_.1.2.1.2 | exact h_.1.2.2.1 | exact h_.1.2.2.2 | exact h_.2.1.1.1 | exact h_.2.1.1.2 | exact h_.2.1.2.1 | exact h_.2.1.2.2 | exact h_.2.2.1.1 | exact h_.2.2.1.2 | exact h_.2.2.2.1 | exact h_.2.2.2.2))
                  rw [← Ny378.out] at ho
                  have n0_ := Aside0.mk (Kd.N_afterv (ok := (fun k_ => some k_ ≠ (.slice Ao44 x13_2.length co44 : Value).ownBlock ∧ some k_ ≠ (.slice Ao53 y375.length co53 : Value).ownBlock ∧ some k_ ≠ (v383 : Value).ownBlock)) (by exact Kd.N_mono HO_11.out (fun _ hk => ⟨⟨hk.1.1.2, ⟨hk.1.2, hk.2⟩⟩, hk.1.1.1⟩)) hg hat)
                  have n1_ := Aside0.mk (Kd.R_over' (by exact HO_13.out) (Kd.N_typed (by exact HO_12.out)) (by decide) hg)
                  have n2_ := Aside0.mk (Kd.V_afterv (ok := (fun k_ => some k_ ≠ (.slice (some ad374) t354.length co47 : Value).ownBlock ∧ some k_ ≠ (.slice Ao44 x13_2.length co44 : Value).ownBlock ∧ some k_ ≠ (.slice Ao53 y375.length co53 : Value).ownBlock ∧ some k_ ≠ (v383 : Value).ownBlock)) (by exact Kd.V_mono HL374_0.out (fun _ hk => ⟨⟨hk.1.1.2, ⟨hk.1.1.1.2, ⟨hk.1.2, hk.2⟩⟩⟩, hk.1.1.1.1⟩)) hg hat)
                  have n3_ := Aside0.mk (Kd.N_afterv (ok := (fun k_ => some k_ ≠ (.slice (some ad374) t354.length co47 : Value).ownBlock ∧ some k_ ≠ (.slice Ao44 x13_2.length co44 : Value).ownBlock ∧ some k_ ≠ (v383 : Value).ownBlock)) (by exact Kd.N_mono HO377.out (fun _ hk => ⟨⟨hk.1.1, ⟨hk.1.2.2, hk.2⟩⟩, hk.1.2.1⟩)) hg hat)
                  have n4_ := Aside0.mk (Kd.R_over' (by exact HO384.out) (Kd.N_typed (by exact HO_12.out)) (by decide) hg)
                  have n5_ := Aside0.mk (hb)
                  have n6_ := Aside0.mk (ho)
                  clear HO_11
                  clear HO_13
                  clear HL374_0
                  clear HO377
                  clear HO384
                  clear HB
                  clear HO_12
                  have HO_11 := n0_
                  have HO_13 := n1_
                  have HL374_0 := n2_
                  have HO377 := n3_
                  have HO384 := n4_
                  have HB := n5_
                  have HO380 := n6_
                  clear n0_ n1_ n2_ n3_ n4_ n5_ n6_
                  clear ho hb hg hat
                  refine hK.out _ _ ⟨HS0_, ((HB.out.cell (World.block_lt_of_cell? w _ hw381_0)).trans hw381_0)⟩ (fun hHeld => ?_)
                  clear hK K
                  refine norm_ (a' := ?_) ?_ ?_
                  rotate_left
                  ·show Act.put _ (some 73) _ = _
                   simp only [Act.put, List.setIfInBounds_toArray, List.set_cons_zero, List.set_cons_succ, i64_w, i32_w]
                   rfl
                  exact norm_ (by simp only [putAll, Act.put, List.setIfInBounds_toArray, List.set_cons_zero, List.set_cons_succ]) (hCont (.slice Ao53 y375.length co53, v379, v383) _ ⟨hHeld, (by exact Kd.V_mono HL374_0.out (fun _ hk => ⟨hk.1.2.2.1, ⟨hk.2, ⟨hk.1.2.2.2, ⟨hk.1.1, hk.1.2.1⟩⟩⟩⟩)), (by exact Kd.N_mono HO377.out (fun _ hk => ⟨hk.2, ⟨hk.1.2.2, ⟨hk.1.1, hk.1.2.1⟩⟩⟩)), (by exact Kd.N_mono HO380.out (fun _ hk => ⟨hk.2.2, ⟨hk.1, hk.2.1⟩⟩)), (by exact Kd.R_mono HO384.out (fun _ hk => hk.2)), (by exact Kd.N_mono HO_11.out (fun _ hk => ⟨hk.1.2.1, ⟨hk.2, ⟨hk.1.2.2, hk.1.1⟩⟩⟩)), (by exact Kd.R_mono HO_13.out (fun _ hk => hk.2)), (by repeat (first | exact HB.out | apply below_alloc | apply pw_below_drewN | apply below_drew1))⟩)
                ·skip
                 refine Kd.R_lit_step Kd.string _ 9 ?hg (N := 79) ?hd (xs := ([rdOf ByteArray.empty l1 x45_2] : List ByteArray)) (inner := [.string (rdOf ByteArray.empty l1 x45_2)]) (ok := fun _ => True) (okp := fun _ => True) ?hr ?hp (fun _ hk => hk) trivial (Below.refl _ _) (Nat.le_refl _) (by simp) ?_; (case hd => rfl); (case hg => rfl); (case hr => first | (go_simp; done) | (go_simp; rfl)); (case hp => exact (Reps.one (show Kd.M Kd.string _ _ _ (rdOf ByteArray.empty l1 x45_2) [.string (rdOf ByteArray.empty l1 x45_2)] from rfl) (Reps.none _ _)))
                 intro v383 w48 ho49 hb hg_ hnew_
                 have HS0_ := (hb.cell (World.block_lt_of_cell? _ _ (hHeld.1))).trans (hHeld.1)
                 clear hg_ hnew_
                 (first | rw [← Ny382.out] at ho49 | (simp only [Int.reduceToNat] at ho49; rw [← Ny382.out] at ho49))
                 have n0_ := Aside0.mk (Kd.N_elder' (by exact HO_11.out) (Kd.R_base ho49) hb)
                 have n1_ := Aside0.mk (Kd.N_elder' (by exact HO_12.out) (Kd.R_base ho49) hb)
                 have n2_ := Aside0.mk (Kd.R_elder' (by exact HO_13.out) (Kd.R_base ho49) hb)
                 have n3_ := Aside0.mk (Kd.V_elder' (by exact HL374_0.out) (Kd.R_base ho49) hb)
                 have n4_ := Aside0.mk (Kd.R_lower (Kd.R_new' ho49 (Kd.R_lt (by exact HO_13.out))) (below_size (by repeat (first | exact HB.out | apply below_alloc | apply pw_below_drewN | apply below_drew1))))
                 have n5_ := Aside0.mk (Kd.C_below (by repeat (first | (with_reducible exact HR374_0.out) | (with_reducible refine Kd.C_alloc ?_ _) | (with_reducible refine Kd.C_drewN ?_ _) | (with_reducible refine Kd.C_drew ?_) | exact HR374_0.out)) hb)
                 have n6_ := Aside0.mk (below_step (by repeat (first | exact HB.out | apply below_alloc | apply pw_below_drewN | apply below_drew1)) hb)
                 clear HO_11
                 clear HO_12
                 clear HO_13
                 clear HL374_0
                 clear HR374_0
                 clear HB
                 have HO_11 := n0_
                 have HO_12 := n1_
                 have HO_13 := n2_
                 have HL374_0 := n3_
                 have HO384 := n4_
                 have HR374_0 := n5_
                 have HB := n6_
                 clear n0_ n1_ n2_ n3_ n4_ n5_ n6_
                 clear hb ho49
                 refine hK.out _ _ ⟨HS0_, ((HB.out.cell (World.block_lt_of_cell? w _ hw381_0)).trans hw381_0)⟩ (fun hHeld => ?_)
                 clear hK K
                 refine norm_ (a' := ?_) ?_ ?_
                 rotate_left
                 ·show Act.put _ (some 79) _ = _
                  simp only [Act.put, List.setIfInBounds_toArray, List.set_cons_zero, List.set_cons_succ, i64_w, i32_w]
                  rfl
                 refine one_ (i := 5) (N := some 72) #[true, true, true, true, true, true, false, true, true, true, true, true, true, false, false, false] rfl rfl (one_of HT_.out (by kernel_rfl)) (by decide) (fun K hK => ?_)
                 refine Kd.N_lit_step (Kd.slice 3 (Kd.int .i64)) _ 32 ?hg (N' := 72) ?hd (xs := ([rd_L3 t354 x45_2] : List (List Int))) (inner := [.slice A374_0 (rd_L3 t354 x45_2).length c374_0]) (ok := (fun k_ => some k_ ≠ (.slice (some ad374) t354.length co47 : Value).ownBlock ∧ some k_ ≠ (.slice Ao45 x12_2.length co45 : Value).ownBlock ∧ some k_ ≠ (.slice Ao44 x13_2.length co44 : Value).ownBlock ∧ some k_ ≠ (v383 : Value).ownBlock)) (okp := (fun k_ => some k_ ≠ (.slice (some ad374) t354.length co47 : Value).ownBlock ∧ some k_ ≠ (.slice Ao45 x12_2.length co45 : Value).ownBlock ∧ some k_ ≠ (.slice Ao44 x13_2.length co44 : Value).ownBlock ∧ some k_ ≠ (v383 : Value).ownBlock)) ?hr ?hp (fun _ hk => hk) ((show ∀ k_, w48.heap.size ≤ k_ → (fun k_ => some k_ ≠ (.slice (some ad374) t354.length co47 : Value).ownBlock ∧ some k_ ≠ (.slice Ao45 x12_2.length co45 : Value).ownBlock ∧ some k_ ≠ (.slice Ao44 x13_2.length co44 : Value).ownBlock ∧ some k_ ≠ (v383 : Value).ownBlock) k_ from fun k_ hk => ⟨Kd.fresh' (Kd.N_lt (by exact HO_11.out)) k_ hk, Kd.fresh' (Kd.N_lt (by exact HO_12.out)) k_ hk, Kd.fresh' (Kd.R_lt (by exact HO_13.out)) k_ hk, Kd.fresh' (Kd.R_lt (by exact HO384.out)) k_ hk⟩) _ (Nat.le_refl _)) (Below.refl _ _) (Nat.le_refl _) (by simp) ?_; (case hd => rfl); (case hg => rfl); (case hr => first | (go_simp; done) | (go_simp; rfl)); (case hp => exact (Reps.one (show Kd.FK (Kd.slice 3 (Kd.int .i64)) _ _ (rd_L3 t354 x45_2) [.slice A374_0 (rd_L3 t354 x45_2).length c374_0] from (Kd.FK_slice_mk (Kd.V_reads' (Kd.V_mono (ok' := (fun k_ => some k_ ≠ (.slice (some ad374) t354.length co47 : Value).ownBlock ∧ some k_ ≠ (.slice Ao45 x12_2.length co45 : Value).ownBlock ∧ some k_ ≠ (.slice Ao44 x13_2.length co44 : Value).ownBlock ∧ some k_ ≠ (v383 : Value).ownBlock)) (HL374_0.out) (fun k_ hk => ⟨hk.1.2, ⟨hk.1.1.1, ⟨hk.1.1.2, hk.2⟩⟩⟩))).2.1 (Kd.V_F (Kd.V_mono (ok' := (fun k_ => some k_ ≠ (.slice (some ad374) t354.length co47 : Value).ownBlock ∧ some k_ ≠ (.slice Ao45 x12_2.length co45 : Value).ownBlock ∧ some k_ ≠ (.slice Ao44 x13_2.length co44 : Value).ownBlock ∧ some k_ ≠ (v383 : Value).ownBlock)) (HL374_0.out) (fun k_ hk => ⟨hk.1.2, ⟨hk.1.1.1, ⟨hk.1.1.2, hk.2⟩⟩⟩))))) (Reps.none _ _)))
                 intro v376 w50 ho51 hb hg_ hnew_
                 have HS0_ := (hb.cell (World.block_lt_of_cell? _ _ (hHeld.1))).trans (hHeld.1)
                 clear hg_ hnew_
                 (first | rw [← Ny375.out] at ho51 | (simp only [Int.reduceToNat] at ho51; rw [← Ny375.out] at ho51))
                 have n0_ := Aside0.mk (Kd.N_elder' (by exact HO_11.out) (Kd.N_base ho51) hb)
                 have n1_ := Aside0.mk (Kd.N_elder' (by exact HO_12.out) (Kd.N_base ho51) hb)
                 have n2_ := Aside0.mk (Kd.R_below (by exact HO_13.out) hb)
                 have n3_ := Aside0.mk (Kd.V_elder' (by exact HL374_0.out) (Kd.N_base ho51) hb)
                 have n4_ := Aside0.mk (Kd.R_below (by exact HO384.out) hb)
                 have n5_ := Aside0.mk (Kd.N_lower ho51 (below_size (by repeat (first | exact HB.out | apply below_alloc | apply pw_below_drewN | apply below_drew1))))
                 have n6_ := Aside0.mk (Kd.C_below (by repeat (first | (with_reducible exact HR374_0.out) | (with_reducible refine Kd.C_alloc ?_ _) | (with_reducible refine Kd.C_drewN ?_ _) | (with_reducible refine Kd.C_drew ?_) | exact HR374_0.out)) hb)
                 have n7_ := Aside0.mk (below_step (by repeat (first | exact HB.out | apply below_alloc | apply pw_below_drewN | apply below_drew1)) hb)
                 clear HO_11
                 clear HO_12
                 clear HO_13
                 clear HL374_0
                 clear HO384
                 clear HR374_0
                 clear HB
                 have HO_11 := n0_
                 have HO_12 := n1_
                 have HO_13 := n2_
                 have HL374_0 := n3_
                 have HO384 := n4_
                 have HO377 := n5_
                 have HR374_0 := n6_
                 have HB := n7_
                 clear n0_ n1_ n2_ n3_ n4_ n5_ n6_ n7_
                 clear hb ho51
                 obtain ⟨Ao53, co53, eo53⟩ := Kd.N_slice HO377.out
                 (first | subst eo53 | (injection eo53 with f1_ f2_ f3_; have f4_ := f1_.symm; have f5_ := f3_.symm; clear f1_ f2_ f3_; subst f4_; subst f5_))
                 refine hK.out _ _ ⟨HS0_, ((HB.out.cell (World.block_lt_of_cell? w _ hw381_0)).trans hw381_0)⟩ (fun hHeld => ?_)
                 clear hK K
                 refine norm_ (a' := ?_) ?_ ?_
                 rotate_left
                 ·show Act.put _ (some 72) _ = _
                  simp only [Act.put, List.setIfInBounds_toArray, List.set_cons_zero, List.set_cons_succ, i64_w, i32_w]
                  rfl
                 refine one_ (i := 6) (N := some 73) #[true, true, true, true, true, true, true, true, true, true, true, true, true, false, false, false] rfl rfl (one_of HT_.out (by kernel_rfl)) (by decide) (fun K hK => ?_)
                 refine Kd.N_append_rows_step (Kd.slice 3 (Kd.int .i64)) (w0 := w) w.heap.size (by rfl) (.tmp 67) (.tmp 72) 49 32 (.slice none 0 0) 24 rfl Try.underlying49 info32 rfl (by decide) (by omega) (.slice Ao45 x12_2.length co45) x12_2 y375 _ _ _ (fun k_ => some k_ ≠ (.slice (some ad374) t354.length co47 : Value).ownBlock ∧ some k_ ≠ (.slice Ao44 x13_2.length co44 : Value).ownBlock ∧ some k_ ≠ (v383 : Value).ownBlock) (fun k_ => ((fun k_ => some k_ ≠ (.slice (some ad374) t354.length co47 : Value).ownBlock ∧ some k_ ≠ (.slice Ao44 x13_2.length co44 : Value).ownBlock ∧ some k_ ≠ (v383 : Value).ownBlock)) k_ ∧ some k_ ≠ (.slice Ao45 x12_2.length co45 : Value).ownBlock) rfl rfl ?aO ?aR (fun _ hk => hk) ?aF ?aB ?aS ?aL ?_
                 (case aR => exact (by skip; exact Kd.N_F (Kd.N_mono (ok' := (fun k_ => ((fun k_ => some k_ ≠ (.slice (some ad374) t354.length co47 : Value).ownBlock ∧ some k_ ≠ (.slice Ao44 x13_2.length co44 : Value).ownBlock ∧ some k_ ≠ (v383 : Value).ownBlock)) k_ ∧ some k_ ≠ (.slice Ao45 x12_2.length co45 : Value).ownBlock)) (HO377.out) (fun k_ hk => ⟨⟨hk.1, ⟨hk.2.2.1, hk.2.2.2⟩⟩, hk.2.1⟩))))
                 (case aB => exact (by repeat (first | exact HB.out | apply below_alloc | apply pw_below_drewN | apply below_drew1)))
                 (case aF => exact (fun k_ hk => ⟨Kd.fresh' (Kd.N_lt (by exact HO_11.out)) k_ hk, Kd.fresh' (Kd.R_lt (by exact HO_13.out)) k_ hk, Kd.fresh' (Kd.R_lt (by exact HO384.out)) k_ hk⟩))
                 (case aO => exact (by exact Kd.N_mono HO_12.out (fun _ hk => ⟨hk.1.1.1, ⟨hk.1.1.2, hk.1.2⟩⟩)))
                 (case aS => exact (below_size (by repeat (first | exact HB.out | apply below_alloc | apply pw_below_drewN | apply below_drew1))))
                 (case aL => have := LMc40.out; omega)
                 intro v379 w52 ho hb hg hat
                 have HS0_ := cell_grown hg (hHeld.1) (by have h_ := HO_11.out.1 _ rfl; first | (rw [add_block]; first | exact h_ | exact h_.1 | exact h_.2 | exact h_.1.1 | exact h_.1.2 | exact h_.2.1 | exact h_.2.2 | exact h_.1.1.1 | exact h_.1.1.2 | exact h_.1.2.1 | exact h_.1.2.2 | exact h_.2.1.1 | exact h_.2.1.2 | exact h_.2.2.1 | exact h_.2.2.2 | exact h_.1.1.1.1 | exact h_.1.1.1.2 | exact h_.1.1.2.1 | exact h_.1.1.2.2 | exact h_.1.2.1.1 | exact h_.1.2.1.2 | exact h_.1.2.2.1 | exact h_.1.2.2.2 | exact h_.2.1.1.1 | exact h_.2.1.1.2 | exact h_.2.1.2.1 | exact h_.2.1.2.2 | exact h_.2.2.1.1 | exact h_.2.2.1.2 | exact h_.2.2.2.1 | exact h_.2.2.2.2) | (show some (Addr.add _ _).block ≠ _; rw [add_block]; first | exact h_ | exact h_.1 | exact h_.2 | exact h_.1.1 | exact h_.1.2 | exact h_.2.1 | exact h_.2.2 | exact h_.1.1.1 | exact h_.1.1.2 | exact h_.1.2.1 | exact h_.1.2.2 | exact h_.2.1.1 | exact h_.2.1.2 | exact h_.2.2.1 | exact h_.2.2.2 | exact h_.1.1.1.1 | exact h_.1.1.1.2 | exact h_.1.1.2.1 | exact h_.1.1.2.2 | exact h_.1.2.1.1 | exact h_.1.2.1.2 | exact h_.1.2.2.1 | exact h_.1.2.2.2 | exact h_.2.1.1.1 | exact h_.2.1.1.2 | exact h_.2.1.2.1 | exact h_.2.1.2.2 | exact h_.2.2.1.1 | exact h_.2.2.1.2 | exact h_.2.2.2.1 | exact h_.2.2.2.2) | (first | exact h_ | exact h_.1 | exact h_.2 | exact h_.1.1 | exact h_.1.2 | exact h_.2.1 | exact h_.2.2 | exact h_.1.1.1 | exact h_.1.1.2 | exact h_.1.2.1 | exact h_.1.2.2 | exact h_.2.1.1 | exact h_.2.1.2 | exact h_.2.2.1 | exact h_.2.2.2 | exact h_.1.1.1.1 | exact h_.1.1.1.2 | exact h_.1.1.2.1 | exact h_.1.1.2.2 | exact h_.1.2.1.1 | exact h_.1.2.1.2 | exact h_.1.2.2.1 | exact h_.1.2.2.2 | exact h_.2.1.1.1 | exact h_.2.1.1.2 | exact h_.2.1.2.1 | exact h_.2.1.2.2 | exact h_.2.2.1.1 | exact h_.2.2.1.2 | exact h_.2.2.2.1 | exact h_.2.2.2.2))
                 rw [← Ny378.out] at ho
                 have n0_ := Aside0.mk (Kd.N_afterv (ok := (fun k_ => some k_ ≠ (.slice Ao44 x13_2.length co44 : Value).ownBlock ∧ some k_ ≠ (v383 : Value).ownBlock ∧ some k_ ≠ (.slice Ao53 y375.length co53 : Value).ownBlock)) (by exact Kd.N_mono HO_11.out (fun _ hk => ⟨⟨hk.1.1.2, ⟨hk.1.2, hk.2⟩⟩, hk.1.1.1⟩)) hg hat)
                 have n1_ := Aside0.mk (Kd.R_over' (by exact HO_13.out) (Kd.N_typed (by exact HO_12.out)) (by decide) hg)
                 have n2_ := Aside0.mk (Kd.V_afterv (ok := (fun k_ => some k_ ≠ (.slice (some ad374) t354.length co47 : Value).ownBlock ∧ some k_ ≠ (.slice Ao44 x13_2.length co44 : Value).ownBlock ∧ some k_ ≠ (v383 : Value).ownBlock ∧ some k_ ≠ (.slice Ao53 y375.length co53 : Value).ownBlock)) (by exact Kd.V_mono HL374_0.out (fun _ hk => ⟨⟨hk.1.1.2, ⟨hk.1.1.1.2, ⟨hk.1.2, hk.2⟩⟩⟩, hk.1.1.1.1⟩)) hg hat)
                 have n3_ := Aside0.mk (Kd.R_over' (by exact HO384.out) (Kd.N_typed (by exact HO_12.out)) (by decide) hg)
                 have n4_ := Aside0.mk (Kd.N_afterv (ok := (fun k_ => some k_ ≠ (.slice (some ad374) t354.length co47 : Value).ownBlock ∧ some k_ ≠ (.slice Ao44 x13_2.length co44 : Value).ownBlock ∧ some k_ ≠ (v383 : Value).ownBlock)) (by exact Kd.N_mono HO377.out (fun _ hk => ⟨⟨hk.1, ⟨hk.2.2.1, hk.2.2.2⟩⟩, hk.2.1⟩)) hg hat)
                 have n5_ := Aside0.mk (hb)
                 have n6_ := Aside0.mk (ho)
                 clear HO_11
                 clear HO_13
                 clear HL374_0
                 clear HO384
                 clear HO377
                 clear HB
                 clear HO_12
                 have HO_11 := n0_
                 have HO_13 := n1_
                 have HL374_0 := n2_
                 have HO384 := n3_
                 have HO377 := n4_
                 have HB := n5_
                 have HO380 := n6_
                 clear n0_ n1_ n2_ n3_ n4_ n5_ n6_
                 clear ho hb hg hat
                 refine hK.out _ _ ⟨HS0_, ((HB.out.cell (World.block_lt_of_cell? w _ hw381_0)).trans hw381_0)⟩ (fun hHeld => ?_)
                 clear hK K
                 refine norm_ (a' := ?_) ?_ ?_
                 rotate_left
                 ·show Act.put _ (some 73) _ = _
                  simp only [Act.put, List.setIfInBounds_toArray, List.set_cons_zero, List.set_cons_succ, i64_w, i32_w]
                  rfl
                 exact norm_ (by simp only [putAll, Act.put, List.setIfInBounds_toArray, List.set_cons_zero, List.set_cons_succ]) (hCont (.slice Ao53 y375.length co53, v379, v383) _ ⟨hHeld, (by exact Kd.V_mono HL374_0.out (fun _ hk => ⟨hk.1.2.2.2, ⟨hk.2, ⟨hk.1.2.2.1, ⟨hk.1.1, hk.1.2.1⟩⟩⟩⟩)), (by exact Kd.N_mono HO377.out (fun _ hk => ⟨hk.2, ⟨hk.1.2.2, ⟨hk.1.1, hk.1.2.1⟩⟩⟩)), (by exact Kd.N_mono HO380.out (fun _ hk => ⟨hk.2.2, ⟨hk.1, hk.2.1⟩⟩)), (by exact Kd.R_mono HO384.out (fun _ hk => hk.2)), (by exact Kd.N_mono HO_11.out (fun _ hk => ⟨hk.1.2.2, ⟨hk.2, ⟨hk.1.2.1, hk.1.1⟩⟩⟩)), (by exact Kd.R_mono HO_13.out (fun _ hk => hk.2)), (by repeat (first | exact HB.out | apply below_alloc | apply pw_below_drewN | apply below_drew1))⟩)
               rintro ⟨v376, v379, v383⟩ w54 ⟨hS_, h0_, h1_, h2_, h3_, h4_, h5_, h6_⟩
               have n0_ : Aside0 (Kd.V (Kd.int .i64) 3 w54 w.heap.size (fun k_ => some k_ ≠ (v376 : Value).ownBlock ∧ some k_ ≠ (v379 : Value).ownBlock ∧ some k_ ≠ (v383 : Value).ownBlock ∧ some k_ ≠ (.slice (some ad374) t354.length co47 : Value).ownBlock ∧ some k_ ≠ (.slice Ao44 x13_2.length co44 : Value).ownBlock) (.slice A374_0 (rd_L3 t354 x45_2).length c374_0) (rd_L3 t354 x45_2)) := ⟨h0_⟩
               have n1_ : Aside0 (Kd.N (Kd.slice 3 (Kd.int .i64)) 32 w54 w.heap.size (fun k_ => some k_ ≠ (v379 : Value).ownBlock ∧ some k_ ≠ (v383 : Value).ownBlock ∧ some k_ ≠ (.slice (some ad374) t354.length co47 : Value).ownBlock ∧ some k_ ≠ (.slice Ao44 x13_2.length co44 : Value).ownBlock) v376 y375) := ⟨h1_⟩
               have n2_ : Aside0 (Kd.N (Kd.slice 3 (Kd.int .i64)) 32 w54 w.heap.size (fun k_ => some k_ ≠ (v383 : Value).ownBlock ∧ some k_ ≠ (.slice (some ad374) t354.length co47 : Value).ownBlock ∧ some k_ ≠ (.slice Ao44 x13_2.length co44 : Value).ownBlock) v379 y378) := ⟨h2_⟩
               have n3_ : Aside0 (Kd.R Kd.string 9 w54 w.heap.size (fun k_ => some k_ ≠ (.slice Ao44 x13_2.length co44 : Value).ownBlock) v383 y382) := ⟨h3_⟩
               have n4_ : Aside0 (Kd.N (Kd.slice 3 (Kd.int .i64)) 32 w54 w.heap.size (fun k_ => some k_ ≠ (v376 : Value).ownBlock ∧ some k_ ≠ (v379 : Value).ownBlock ∧ some k_ ≠ (v383 : Value).ownBlock ∧ some k_ ≠ (.slice Ao44 x13_2.length co44 : Value).ownBlock) (.slice (some ad374) t354.length co47) t354) := ⟨h4_⟩
               have n5_ : Aside0 (Kd.R Kd.string 9 w54 w.heap.size (fun k_ => some k_ ≠ (v383 : Value).ownBlock) (.slice Ao44 x13_2.length co44) x13_2) := ⟨h5_⟩
               have n6_ : Aside0 (Below w.heap.size w w54) := ⟨h6_⟩
               clear HO_11
               clear HO_12
               clear HO_13
               clear HB
               clear h0_ h1_ h2_ h3_ h4_ h5_ h6_
               have HL374_0 := n0_
               have HO377 := n1_
               have HO380 := n2_
               have HO384 := n3_
               have HO_11 := n4_
               have HO_13 := n5_
               have HB := n6_
               clear n0_ n1_ n2_ n3_ n4_ n5_ n6_
               have hHeld : w54.cell? (ad374.add (x45_2).toNat) = some (.slice A374_0 (rd_L3 t354 x45_2).length c374_0) ∧ w54.cell? (ad381.add (x45_2).toNat) = some (.string (rdOf ByteArray.empty l1 x45_2)) := hS_
               obtain ⟨Ao56, co56, eo56⟩ := Kd.R_slice HO384.out
               (first | subst eo56 | (injection eo56 with f1_ f2_ f3_; have f4_ := f1_.symm; have f5_ := f3_.symm; clear f1_ f2_ f3_; subst f4_; subst f5_))
               refine norm_ (a' := ?_) ?_ ?_
               rotate_left
               ·simp only [putAll, Act.put, List.setIfInBounds_toArray, List.set_cons_zero, List.set_cons_succ]
                rfl
               refine one_ (i := 13) (N := some 80) #[true, true, true, true, true, true, true, true, true, true, true, true, true, true, false, false] rfl rfl (one_of HT_.out (by kernel_rfl)) (by decide) (fun K hK => ?_)
               refine Kd.R_append_rows_step Kd.string (w0 := w) w.heap.size (by rfl) (.tmp 74) (.tmp 79) 24 9 (.string ⟨#[]⟩) 16 rfl Try.underlying24 info9 rfl (by decide) (by omega) (.slice Ao44 x13_2.length co44) x13_2 y382 _ _ _ (fun k_ => some k_ ≠ (.slice Ao56 y382.length co56 : Value).ownBlock) (fun _ => False) rfl rfl ?aO ?aR (fun _ _ h => h) (fun _ h => h.elim) ?aF ?aB ?aS ?aL ?_
               (case aR => repeat (first | exact (Kd.R_reads' HO384.out).2.2 | (with_reducible refine Kd.C_alloc ?_ _) | (with_reducible refine Kd.C_drewN ?_ _) | (with_reducible refine Kd.C_drew ?_)))
               (case aB => exact (by repeat (first | exact HB.out | apply below_alloc | apply pw_below_drewN | apply below_drew1)))
               (case aF => exact (fun k_ hk => Kd.fresh' (Kd.R_lt (by exact HO384.out)) k_ hk))
               (case aO => exact (by exact HO_13.out))
               (case aS => exact (below_size (by repeat (first | exact HB.out | apply below_alloc | apply pw_below_drewN | apply below_drew1))))
               (case aL => have := LMc42.out; omega)
               intro v386 w55 ho hb hg hat
               have HS0_ := cell_grown hg (hHeld.1) (by have h_ := HO_11.out.1 _ rfl; first | (rw [add_block]; first | exact h_ | exact h_.1 | exact h_.2 | exact h_.1.1 | exact h_.1.2 | exact h_.2.1 | exact h_.2.2 | exact h_.1.1.1 | exact h_.1.1.2 | exact h_.1.2.1 | exact h_.1.2.2 | exact h_.2.1.1 | exact h_.2.1.2 | exact h_.2.2.1 | exact h_.2.2.2 | exact h_.1.1.1.1 | exact h_.1.1.1.2 | exact h_.1.1.2.1 | exact h_.1.1.2.2 | exact h_.1.2.1.1 | exact h_.1.2.1.2 | exact h_.1.2.2.1 | exact h_.1.2.2.2 | exact h_.2.1.1.1 | exact h_.2.1.1.2 | exact h_.2.1.2.1 | exact h_.2.1.2.2 | exact h_.2.2.1.1 | exact h_.2.2.1.2 | exact h_.2.2.2.1 | exact h_.2.2.2.2) | (show some (Addr.add _ _).block ≠ _; rw [add_block]; first | exact h_ | exact h_.1 | exact h_.2 | exact h_.1.1 | exact h_.1.2 | exact h_.2.1 | exact h_.2.2 | exact h_.1.1.1 | exact h_.1.1.2 | exact h_.1.2.1 | exact h_.1.2.2 | exact h_.2.1.1 | exact h_.2.1.2 | exact h_.2.2.1 | exact h_.2.2.2 | exact h_.1.1.1.1 | exact h_.1.1.1.2 | exact h_.1.1.2.1 | exact h_.1.1.2.2 | exact h_.1.2.1.1 | exact h_.1.2.1.2 | exact h_.1.2.2.1 | exact h_.1.2.2.2 | exact h_.2.1.1.1 | exact h_.2.1.1.2 | exact h_.2.1.2.1 | exact h_.2.1.2.2 | exact h_.2.2.1.1 | exact h_.2.2.1.2 | exact h_.2.2.2.1 | exact h_.2.2.2.2) | (first | exact h_ | exact h_.1 | exact h_.2 | exact h_.1.1 | exact h_.1.2 | exact h_.2.1 | exact h_.2.2 | exact h_.1.1.1 | exact h_.1.1.2 | exact h_.1.2.1 | exact h_.1.2.2 | exact h_.2.1.1 | exact h_.2.1.2 | exact h_.2.2.1 | exact h_.2.2.2 | exact h_.1.1.1.1 | exact h_.1.1.1.2 | exact h_.1.1.2.1 | exact h_.1.1.2.2 | exact h_.1.2.1.1 | exact h_.1.2.1.2 | exact h_.1.2.2.1 | exact h_.1.2.2.2 | exact h_.2.1.1.1 | exact h_.2.1.1.2 | exact h_.2.1.2.1 | exact h_.2.1.2.2 | exact h_.2.2.1.1 | exact h_.2.2.1.2 | exact h_.2.2.2.1 | exact h_.2.2.2.2))
               rw [← Ny385.out] at ho
               have n0_ := Aside0.mk (Kd.N_afterv (ok := (fun k_ => some k_ ≠ (v376 : Value).ownBlock ∧ some k_ ≠ (v379 : Value).ownBlock ∧ some k_ ≠ (.slice Ao56 y382.length co56 : Value).ownBlock)) (by exact Kd.N_mono HO_11.out (fun _ hk => ⟨⟨hk.1, ⟨hk.2.1, hk.2.2.1⟩⟩, hk.2.2.2⟩)) hg hat)
               have n1_ := Aside0.mk (Kd.V_afterv (ok := (fun k_ => some k_ ≠ (.slice (some ad374) t354.length co47 : Value).ownBlock ∧ some k_ ≠ (v376 : Value).ownBlock ∧ some k_ ≠ (v379 : Value).ownBlock ∧ some k_ ≠ (.slice Ao56 y382.length co56 : Value).ownBlock)) (by exact Kd.V_mono HL374_0.out (fun _ hk => ⟨⟨hk.2.2.2.1, ⟨hk.1, ⟨hk.2.1, hk.2.2.1⟩⟩⟩, hk.2.2.2.2⟩)) hg hat)
               have n2_ := Aside0.mk (Kd.N_afterv (ok := (fun k_ => some k_ ≠ (.slice (some ad374) t354.length co47 : Value).ownBlock ∧ some k_ ≠ (v379 : Value).ownBlock ∧ some k_ ≠ (.slice Ao56 y382.length co56 : Value).ownBlock)) (by exact Kd.N_mono HO377.out (fun _ hk => ⟨⟨hk.2.2.1, ⟨hk.1, hk.2.1⟩⟩, hk.2.2.2⟩)) hg hat)
               have n3_ := Aside0.mk (Kd.N_afterv (ok := (fun k_ => some k_ ≠ (.slice (some ad374) t354.length co47 : Value).ownBlock ∧ some k_ ≠ (.slice Ao56 y382.length co56 : Value).ownBlock)) (by exact Kd.N_mono HO380.out (fun _ hk => ⟨⟨hk.2.1, hk.1⟩, hk.2.2⟩)) hg hat)
               have n4_ := Aside0.mk (Kd.R_after (ok := (fun _ => True)) (by exact Kd.R_mono HO384.out (fun _ hk => ⟨trivial, hk⟩)) hg hat)
               have n5_ := Aside0.mk (hb)
               have n6_ := Aside0.mk (ho)
               clear HO_11
               clear HL374_0
               clear HO377
               clear HO380
               clear HO384
               clear HB
               clear HO_13
               have HO_11 := n0_
               have HL374_0 := n1_
               have HO377 := n2_
               have HO380 := n3_
               have HO384 := n4_
               have HB := n5_
               have HO387 := n6_
               clear n0_ n1_ n2_ n3_ n4_ n5_ n6_
               clear ho hb hg hat
               refine hK.out _ _ ⟨HS0_, ((HB.out.cell (World.block_lt_of_cell? w _ hw381_0)).trans hw381_0)⟩ (fun hHeld => ?_)
               clear hK K
               refine norm_ (a' := ?_) ?_ ?_
               rotate_left
               ·show Act.put _ (some 80) _ = _
                simp only [Act.put, List.setIfInBounds_toArray, List.set_cons_zero, List.set_cons_succ, i64_w, i32_w]
                rfl
               refine pure_ (i := 14) (N := some 12) (v := ?_) (a' := ?_) #[true, true, true, true, true, true, true, true, true, true, true, true, true, true, true, false] rfl rfl (any_of HT_.out (by kernel_rfl)) (fun _ _ _ h => h) (Or.inl ⟨by rfl, ?_⟩) ?_ ?_
               rotate_left
               ·intro w'
                go_simp
                with_reducible rfl
               rotate_left
               ·simp only [Act.put, List.setIfInBounds_toArray, List.set_cons_zero, List.set_cons_succ, i64_w, i32_w]
                rfl
               refine pure_ (i := 15) (N := some 13) (v := ?_) (a' := ?_) #[true, true, true, true, true, true, true, true, true, true, true, true, true, true, true, true] rfl rfl (any_of HT_.out (by kernel_rfl)) (fun _ _ _ h => h) (Or.inl ⟨by rfl, ?_⟩) ?_ ?_
               rotate_left
               ·intro w'
                go_simp
                with_reducible rfl
               rotate_left
               ·simp only [Act.put, List.setIfInBounds_toArray, List.set_cons_zero, List.set_cons_succ, i64_w, i32_w]
                rfl
               refine done_ (done_of HT_.out (by kernel_rfl)) ?_
               try go_wp2
               go_roundg k2
               case measure => have := HJ4.out; have := HK2.out; omega
               case rel => exact ⟨(y378), (y385), (wrap64 (x45_2 + 1)), (by first | rfl | (simp; done) | (simp [*]; done)), H', ⟨by have := HJ4.out; have := HK2.out; omega⟩, ⟨by exact Kd.N_mono HO_11.out (fun _ hk => ⟨hk.1.2.1, hk.2⟩)⟩, ⟨by exact Kd.N_mono HO380.out (fun _ hk => ⟨hk.1.1, hk.2⟩)⟩, ⟨by exact Kd.R_mono HO387.out (fun _ hk => trivial)⟩, ⟨by repeat (first | exact HB.out | apply below_alloc | apply pw_below_drewN | apply below_drew1)⟩⟩
              ·rw [if_neg c42] at H
               exact absurd H (by simp)
             ·rw [if_neg c41] at H
              exact absurd H (by simp)
            ·rw [if_neg c40] at H
             exact absurd H (by simp)
           ·rw [if_neg c39] at H
            exact absurd H (by simp)
         ·replace c15 := Bool.eq_false_iff.mpr c15
          subst c15
          have H1 : (impl_Decode.l0 k2 l1 t351 t354 x12_2 x13_2 l2 (l2.length : Int) (wrap64 (x45_2 + 1))) = some (r1, r2) := by rw [if_neg (show ¬ (false = true) by decide)] at H; exact H
          clear H
          have H := H1
          clear H1
          have H' := Aside0.mk H
          clear H
          have p357 : 0 ≤ (x45_2 : Int) := of_decide_eq_true (by assumption)
          have q357 : x45_2 < (l2.length : Int) := of_decide_eq_true (by assumption)
          obtain ⟨ad357, e357, hx357_0⟩ := Kd.at_bool HR2.out x45_2 p357 q357
          (try rw [← Nbq14.out] at hx357_0)
          cases e357
          replace hx357_0 := (HB.out.cell (World.block_lt_of_cell? w _ hx357_0)).trans hx357_0
          replace p357 := eq_true p357
          replace q357 := eq_true q357
          go_wp2
          go_roundg k2
          case measure => have := HJ4.out; have := HK2.out; omega
          case rel => exact ⟨(x12_2), (x13_2), (wrap64 (x45_2 + 1)), (by first | rfl | (simp; done) | (simp [*]; done)), H', ⟨by have := HJ4.out; have := HK2.out; omega⟩, ⟨by exact HO_11.out⟩, ⟨by exact HO_12.out⟩, ⟨by exact HO_13.out⟩, ⟨by repeat (first | exact HB.out | apply below_alloc | apply pw_below_drewN | apply below_drew1)⟩⟩
        ·rw [if_neg c13] at H
         exact absurd H (by simp)
       ·rw [if_neg c12] at H
        exact absurd H (by simp)
      ·rw [if_neg c11] at H
       have c11b0 : decide (x45_2 < (l2.length : Int)) = false := decide_eq_false c11
       clear c11
       by_cases c57 : (x13_2.length : Int) < t351
       ·rw [if_pos c57] at H
        have c57b0 : decide ((x13_2.length : Int) < t351) = true := decide_eq_true c57
        clear c57
        simp only [Option.some.injEq, Prod.mk.injEq] at H
        obtain ⟨rfl, rfl⟩ := H
        obtain ⟨Ao58, co58, eo58⟩ := Kd.R_slice HO_13.out
        subst eo58
        go_wp2
        go_ret2
        exact ⟨_, by first | rfl | (simp [errW_none, errW_some] <;> rfl) | (simp [*, errW_none, errW_some] <;> rfl), by first | exact Kd.R_nil _ _ _ _ _ | exact Kd.N_nil _ _ _ _ _ | exact Kd.V_nil _ _ _ _ _ | exact Kd.Q_nil _ _ _ _ _ | exact Kd.S_nil _ _ _ _ _, by repeat (first | exact HB.out | apply below_alloc | apply pw_below_drewN | apply below_drew1)⟩
       ·rw [if_neg c57] at H
        have c57b0 : decide ((x13_2.length : Int) < t351) = false := decide_eq_false c57
        clear c57
        by_cases c59 : 0 ≤ t351
        ·rw [if_pos c59] at H
         have c59b0 := eq_true c59
         have c59b1 : decide (0 ≤ t351) = true := decide_eq_true c59
         clear c59
         by_cases c60 : t351 ≤ (x12_2.length : Int)
         ·rw [if_pos c60] at H
          have c60b0 := eq_true c60
          have c60b1 : decide (t351 ≤ (x12_2.length : Int)) = true := decide_eq_true c60
          clear c60
          obtain ⟨y388, hy388⟩ : ∃ y_ : List (List Int), y_ = (x12_2.take (t351 : Int).toNat) := ⟨_, rfl⟩
          replace H : ((impl_InvM.f y388).bind fun bt393 => (if bt393.2 = true then (if t351 ≤ (x13_2.length : Int) then ((impl_ApplyM.f k2 bt393.1 (x13_2.take (t351 : Int).toNat)).bind fun t402 => (some (t402, true))) else (none)) else (some (([] : List ByteArray), false)))) = some (r1, r2) := by first | (rw [hy388]; with_reducible exact H) | (have H2_ := (Option.bind_some _ _).symm.trans H; rw [hy388]; with_reducible exact H2_) | (have H2_ := (Option.bind_some _ _).symm.trans H; with_reducible exact H2_) | with_reducible exact H | (rw [hy388]; exact H) | exact H
          have Ny388 := Aside0.mk hy388
          clear hy388
          replace H := Option.bind_eq_some_iff.mp H
          obtain ⟨⟨t393, t394⟩, A610, H⟩ := H
          replace H : (if t394 = true then (if t351 ≤ (x13_2.length : Int) then ((impl_ApplyM.f k2 t393 (x13_2.take (t351 : Int).toNat)).bind fun t402 => (some (t402, true))) else (none)) else (some (([] : List ByteArray), false))) = some (r1, r2) := H
          have A61 := Aside0.mk A610
          clear A610
          by_cases c62 : t394 = true
          ·subst c62
           have H1 : (if t351 ≤ (x13_2.length : Int) then ((impl_ApplyM.f k2 t393 (x13_2.take (t351 : Int).toNat)).bind fun t402 => (some (t402, true))) else (none)) = some (r1, r2) := by rw [if_pos rfl] at H; exact H
           clear H
           have H := H1
           clear H1
           have c63b0 := eq_true (of_decide_eq_true (by assumption) : 0 ≤ t351)
           by_cases c64 : t351 ≤ (x13_2.length : Int)
           ·rw [if_pos c64] at H
            have c64b0 := eq_true c64
            have c64b1 : decide (t351 ≤ (x13_2.length : Int)) = true := decide_eq_true c64
            clear c64
            obtain ⟨y397, hy397⟩ : ∃ y_ : List ByteArray, y_ = (x13_2.take (t351 : Int).toNat) := ⟨_, rfl⟩
            replace H : ((impl_ApplyM.f k2 t393 y397).bind fun t402 => (some (t402, true))) = some (r1, r2) := by first | (rw [hy397]; with_reducible exact H) | (have H2_ := (Option.bind_some _ _).symm.trans H; rw [hy397]; with_reducible exact H2_) | (have H2_ := (Option.bind_some _ _).symm.trans H; with_reducible exact H2_) | with_reducible exact H | (rw [hy397]; exact H) | exact H
            have Ny397 := Aside0.mk hy397
            clear hy397
            replace H := Option.bind_eq_some_iff.mp H
            obtain ⟨t402, A650, H⟩ := H
            replace H : (some (t402, true)) = some (r1, r2) := H
            have A65 := Aside0.mk A650
            clear A650
            simp only [Option.some.injEq, Prod.mk.injEq] at H
            obtain ⟨rfl, rfl⟩ := H
            obtain ⟨Ao66, co66, eo66⟩ := Kd.R_slice HO_13.out
            subst eo66
            obtain ⟨Ao68, co68, eo68⟩ := Kd.N_slice HO_12.out
            subst eo68
            have q67 : (t351 : Int) ≤ ((x12_2.length : Int) : Int) := of_decide_eq_true (by assumption)
            obtain ⟨i067, hi067, _, hsz67, _⟩ := info_parts info32
            have hroom67 : x12_2.length ≤ co68 := (Kd.N_reads' HO_12.out).2.1
            have hC67 : Kd.F (Kd.slice 3 (Kd.int .i64)) _ _ Ao68 x12_2.length x12_2 := (Kd.V_at (base := w.heap.size) (Kd.N_V HO_12.out)).2.2
            have hcut67 := cut_to (P := Try.prog) 49 32 .i64 Try.underlying49 hi067 Ao68 x12_2.length co68 t351 (of_decide_eq_true (by assumption)) q67 hroom67
            have hr67 := Kd.F_take (m := (t351 : Int).toNat) hC67 (by omega)
            have hy67 : y388.length = (t351 : Int).toNat := (by rw [Ny388.out, List.length_take]; omega)
            rw [← Ny388.out] at hr67
            rw [← hy67] at hcut67
            have HO392 := Aside0.mk (show Kd.V (Kd.slice 3 (Kd.int .i64)) 32 _ w.heap.size _ (.slice Ao68 y388.length co68) y388 from Kd.V_mk (by omega) hr67)
            have HC392 := Aside0.mk (show y388.length ≤ co68 from by omega)
            clear hr67 hC67 hroom67 hi067 hsz67
            have KY67 := Aside0.mk hy67
            clear hy67
            replace q67 := eq_true q67
            go_wp2_with (first | ((with_reducible refine gate_callee (f := 37) rfl ?_); refine goesL_ (some 90) rfl rfl Try.func37 (by kernel_rfl) rfl #[.slice Ao68 y388.length co68] rfl (by (try simp only [List.map_toArray, List.map_cons, List.map_nil]); first | done | rfl) ?_; (with_reducible refine (impl_InvM.calls _ _ y388 t393 true _ ?side1 ?side2 A61.out).mono ?_); (case side1 => repeat (first | exact (Kd.V_reads' HO392.out).2.2 | (with_reducible refine Kd.C_alloc ?_ _) | (with_reducible refine Kd.C_drewN ?_ _) | (with_reducible refine Kd.C_drew ?_))); (case side2 => exact (Kd.V_reads' HO392.out).2.1); rintro e w69 ⟨v395, rfl, ho0, hb⟩; refine ⟨_, rfl, ?_⟩; have n0_ := Aside0.mk (Kd.N_elder' (by exact HO_11.out) (Kd.S_base ho0) hb); have n1_ := Aside0.mk (Kd.N_elder' (by exact HO_12.out) (Kd.S_base ho0) hb); have n2_ := Aside0.mk (Kd.R_below (by exact HO_13.out) hb); have n3_ := Aside0.mk (Kd.V_elder' (by exact HO392.out) (Kd.S_base ho0) hb); have n4_ := Aside0.mk (Kd.N_lower (Kd.N_mono (ok' := fun k_ => some k_ ≠ (v355 : Value).ownBlock ∧ some k_ ≠ (.slice Ao68 x12_2.length co68 : Value).ownBlock ∧ some k_ ≠ (.slice Ao66 x13_2.length co66 : Value).ownBlock) (Kd.S_N (Kd.S_bound ho0)) (fun k_ hk_ => ⟨(Kd.fresh' (Kd.N_lt (by exact HO_11.out)) k_ hk_.2.1), (Kd.fresh' (Kd.N_lt (by exact HO_12.out)) k_ hk_.2.1), (Kd.fresh' (Kd.R_lt (by exact HO_13.out)) k_ hk_.2.1)⟩)) (below_size (by repeat (first | exact HB.out | apply below_alloc | apply pw_below_drewN | apply below_drew1)))); have n5_ := Aside0.mk (below_step (by repeat (first | exact HB.out | apply below_alloc | apply pw_below_drewN | apply below_drew1)) hb); clear HO_11; clear HO_12; clear HO_13; clear HO392; clear HB; have HO_11 := n0_; have HO_12 := n1_; have HO_13 := n2_; have HO392 := n3_; have HO396 := n4_; have HB := n5_; clear n0_ n1_ n2_ n3_ n4_ n5_; (try clear hb); (try clear ho0); have q70 : (t351 : Int) ≤ ((x13_2.length : Int) : Int) := of_decide_eq_true (by assumption); obtain ⟨i070, hi070, _, hsz70, _⟩ := info_parts info9; have hroom70 : x13_2.length ≤ co66 := (Kd.R_reads' HO_13.out).2.1; have hC70 : Kd.F Kd.string _ _ Ao66 x13_2.length x13_2 := (Kd.V_at (base := w.heap.size) (Kd.R_V (Kd.R_apart' (Kd.R_apart' (Kd.R_apart' (HO_13.out) (Kd.N_typed HO_11.out) (by decide)) (Kd.N_typed HO_12.out) (by decide)) (Kd.N_typed HO396.out) (by decide)))).2.2; have hcut70 := cut_to (P := Try.prog) 24 9 .i64 Try.underlying24 hi070 Ao66 x13_2.length co66 t351 (of_decide_eq_true (by assumption)) q70 hroom70; have hr70 := Kd.F_take (m := (t351 : Int).toNat) hC70 (by omega); have hy70 : y397.length = (t351 : Int).toNat := (by rw [Ny397.out, List.length_take]; omega); rw [← Ny397.out] at hr70; rw [← hy70] at hcut70; have HO401 := Aside0.mk (show Kd.V Kd.string 9 _ w.heap.size _ (.slice Ao66 y397.length co66) y397 from Kd.V_mk (by omega) hr70); have HC401 := Aside0.mk (show y397.length ≤ co66 from by omega); clear hr70 hC70 hroom70 hi070 hsz70; have KY70 := Aside0.mk hy70; clear hy70; replace q70 := eq_true q70; obtain ⟨Ao71, co71, eo71⟩ := Kd.N_slice HO396.out; subst eo71) | ((with_reducible refine gate_callee (f := 31) rfl ?_); refine goesL_ (some 99) rfl rfl Try.func31 (by kernel_rfl) rfl #[.slice Ao71 t393.length co71, .slice Ao66 y397.length co66] rfl (by (try simp only [List.map_toArray, List.map_cons, List.map_nil]); first | done | rfl) ?_; (with_reducible refine (impl_ApplyM.calls k2 _ _ t393 _ _ y397 t402 _ ?side1 ?side2 ?side3 ?side4 A65.out).mono ?_); (case side1 => repeat (first | exact (Kd.N_reads' HO396.out).2.2 | (with_reducible refine Kd.C_alloc ?_ _) | (with_reducible refine Kd.C_drewN ?_ _) | (with_reducible refine Kd.C_drew ?_))); (case side2 => exact (Kd.N_reads' HO396.out).2.1); (case side3 => repeat (first | exact (Kd.V_reads' HO401.out).2.2 | (with_reducible refine Kd.C_alloc ?_ _) | (with_reducible refine Kd.C_drewN ?_ _) | (with_reducible refine Kd.C_drew ?_))); (case side4 => exact (Kd.V_reads' HO401.out).2.1); rintro e w72 ⟨v403, rfl, ho0, hb⟩; refine ⟨_, rfl, ?_⟩; have n0_ := Aside0.mk (Kd.N_elder' (by exact HO_11.out) (Kd.R_base ho0) hb); have n1_ := Aside0.mk (Kd.N_elder' (by exact HO_12.out) (Kd.R_base ho0) hb); have n2_ := Aside0.mk (Kd.R_elder' (by exact HO_13.out) (Kd.R_base ho0) hb); have n3_ := Aside0.mk (Kd.V_elder' (by exact HO392.out) (Kd.R_base ho0) hb); have n4_ := Aside0.mk (Kd.N_elder' (by exact HO396.out) (Kd.R_base ho0) hb); have n5_ := Aside0.mk (Kd.V_elder' (by exact HO401.out) (Kd.R_base ho0) hb); have n6_ := Aside0.mk (Kd.R_lower (Kd.R_new' ho0 (Kd.R_lt (by exact HO_13.out))) (below_size (by repeat (first | exact HB.out | apply below_alloc | apply pw_below_drewN | apply below_drew1)))); have n7_ := Aside0.mk (below_step (by repeat (first | exact HB.out | apply below_alloc | apply pw_below_drewN | apply below_drew1)) hb); clear HO_11; clear HO_12; clear HO_13; clear HO392; clear HO396; clear HO401; clear HB; have HO_11 := n0_; have HO_12 := n1_; have HO_13 := n2_; have HO392 := n3_; have HO396 := n4_; have HO401 := n5_; have HO404 := n6_; have HB := n7_; clear n0_ n1_ n2_ n3_ n4_ n5_ n6_ n7_; (try clear hb); (try clear hk); (try clear ho0)))
            go_ret2
            exact ⟨_, by first | rfl | (simp [errW_none, errW_some] <;> rfl) | (simp [*, errW_none, errW_some] <;> rfl), by exact Kd.R_mono HO404.out (fun _ hk => trivial), by repeat (first | exact HB.out | apply below_alloc | apply pw_below_drewN | apply below_drew1)⟩
           ·rw [if_neg c64] at H
            exact absurd H (by simp)
          ·replace c62 := Bool.eq_false_iff.mpr c62
           subst c62
           have H1 : (some (([] : List ByteArray), false)) = some (r1, r2) := by rw [if_neg (show ¬ (false = true) by decide)] at H; exact H
           clear H
           have H := H1
           clear H1
           simp only [Option.some.injEq, Prod.mk.injEq] at H
           obtain ⟨rfl, rfl⟩ := H
           obtain ⟨Ao73, co73, eo73⟩ := Kd.R_slice HO_13.out
           subst eo73
           obtain ⟨Ao75, co75, eo75⟩ := Kd.N_slice HO_12.out
           subst eo75
           have q74 : (t351 : Int) ≤ ((x12_2.length : Int) : Int) := of_decide_eq_true (by assumption)
           obtain ⟨i074, hi074, _, hsz74, _⟩ := info_parts info32
           have hroom74 : x12_2.length ≤ co75 := (Kd.N_reads' HO_12.out).2.1
           have hC74 : Kd.F (Kd.slice 3 (Kd.int .i64)) _ _ Ao75 x12_2.length x12_2 := (Kd.V_at (base := w.heap.size) (Kd.N_V HO_12.out)).2.2
           have hcut74 := cut_to (P := Try.prog) 49 32 .i64 Try.underlying49 hi074 Ao75 x12_2.length co75 t351 (of_decide_eq_true (by assumption)) q74 hroom74
           have hr74 := Kd.F_take (m := (t351 : Int).toNat) hC74 (by omega)
           have hy74 : y388.length = (t351 : Int).toNat := (by rw [Ny388.out, List.length_take]; omega)
           rw [← Ny388.out] at hr74
           rw [← hy74] at hcut74
           have HO392 := Aside0.mk (show Kd.V (Kd.slice 3 (Kd.int .i64)) 32 _ w.heap.size _ (.slice Ao75 y388.length co75) y388 from Kd.V_mk (by omega) hr74)
           have HC392 := Aside0.mk (show y388.length ≤ co75 from by omega)
           clear hr74 hC74 hroom74 hi074 hsz74
           have KY74 := Aside0.mk hy74
           clear hy74
           replace q74 := eq_true q74
           go_wp2_with (first | ((with_reducible refine gate_callee (f := 37) rfl ?_); refine goesL_ (some 90) rfl rfl Try.func37 (by kernel_rfl) rfl #[.slice Ao75 y388.length co75] rfl (by (try simp only [List.map_toArray, List.map_cons, List.map_nil]); first | done | rfl) ?_; (with_reducible refine (impl_InvM.calls _ _ y388 t393 false _ ?side1 ?side2 A61.out).mono ?_); (case side1 => repeat (first | exact (Kd.V_reads' HO392.out).2.2 | (with_reducible refine Kd.C_alloc ?_ _) | (with_reducible refine Kd.C_drewN ?_ _) | (with_reducible refine Kd.C_drew ?_))); (case side2 => exact (Kd.V_reads' HO392.out).2.1); rintro e w76 ⟨v395, rfl, ho0, hb⟩; refine ⟨_, rfl, ?_⟩; have n0_ := Aside0.mk (Kd.N_elder' (by exact HO_11.out) (Kd.S_base ho0) hb); have n1_ := Aside0.mk (Kd.N_elder' (by exact HO_12.out) (Kd.S_base ho0) hb); have n2_ := Aside0.mk (Kd.R_below (by exact HO_13.out) hb); have n3_ := Aside0.mk (Kd.V_elder' (by exact HO392.out) (Kd.S_base ho0) hb); have n4_ := Aside0.mk (Kd.N_lower (Kd.N_mono (ok' := fun k_ => some k_ ≠ (v355 : Value).ownBlock ∧ some k_ ≠ (.slice Ao75 x12_2.length co75 : Value).ownBlock ∧ some k_ ≠ (.slice Ao73 x13_2.length co73 : Value).ownBlock) (Kd.S_N (Kd.S_bound ho0)) (fun k_ hk_ => ⟨(Kd.fresh' (Kd.N_lt (by exact HO_11.out)) k_ hk_.2.1), (Kd.fresh' (Kd.N_lt (by exact HO_12.out)) k_ hk_.2.1), (Kd.fresh' (Kd.R_lt (by exact HO_13.out)) k_ hk_.2.1)⟩)) (below_size (by repeat (first | exact HB.out | apply below_alloc | apply pw_below_drewN | apply below_drew1)))); have n5_ := Aside0.mk (below_step (by repeat (first | exact HB.out | apply below_alloc | apply pw_below_drewN | apply below_drew1)) hb); clear HO_11; clear HO_12; clear HO_13; clear HO392; clear HB; have HO_11 := n0_; have HO_12 := n1_; have HO_13 := n2_; have HO392 := n3_; have HO396 := n4_; have HB := n5_; clear n0_ n1_ n2_ n3_ n4_ n5_; (try clear hb); (try clear ho0)))
           go_ret2
           exact ⟨_, by first | rfl | (simp [errW_none, errW_some] <;> rfl) | (simp [*, errW_none, errW_some] <;> rfl), by first | exact Kd.R_nil _ _ _ _ _ | exact Kd.N_nil _ _ _ _ _ | exact Kd.V_nil _ _ _ _ _ | exact Kd.Q_nil _ _ _ _ _ | exact Kd.S_nil _ _ _ _ _, by repeat (first | exact HB.out | apply below_alloc | apply pw_below_drewN | apply below_drew1)⟩
         ·rw [if_neg c60] at H
          exact absurd H (by simp)
        ·rw [if_neg c59] at H
         exact absurd H (by simp)

end Go.Proofs.Ytcpcphdhaboekaa.XFnCodes
