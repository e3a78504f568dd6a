import Derived.Test.YtcpcphdhaboekaaXFnExactRebuildx0
import Derived.Test.YtcpcphdhaboekaaXFnExactRebuildx5
import Derived.Test.YtcpcphdhaboekaaXFnExactRebuildx8
import Derived.Test.YtcpcphdhaboekaaXFnExactRebuildx10
import Derived.Test.YtcpcphdhaboekaaXFnExactRebuildx11
import Derived.Test.YtcpcphdhaboekaaXFnExactRebuildx13
namespace Go.Proofs.Ytcpcphdhaboekaa.XFnExactRebuild
open Go.RowKit Go.Proofs.YtcpcphdhaboekaaU.PrintWords Go.Proofs.YtcpcphdhaboekaaU.PrintLast Go.Proofs.YtcpcphdhaboekaaU.PrintMore
attribute [local go_sem] max2_int min2_int max_two min_two max_three min_three max_four min_four
set_option linter.unusedVariables false
set_option linter.unusedSimpArgs false
mutual
def spec_Decode.j0 : Nat → Int → List ByteArray → List Bool → Int → Int → Bool → Option (List ByteArray × Bool)
 | 0, _, _, _, _, _, _ => none
 | k + 1, x0, x1, x2, x8, x9, x41 => if x41 = true then (some ((([] : List ByteArray)), false)) else ((spec_CodeOf.f k x0).bind fun t460 => (spec_Decode.l0 k x1 x2 x8 x9 (([] : List (List Int))) (([] : List ByteArray)) (-1) t460 0))
def spec_Decode.l0 : Nat → List ByteArray → List Bool → Int → Int → List (List Int) → List ByteArray → Int → List (List Int) → Int → Option (List ByteArray × Bool)
 | 0, _, _, _, _, _, _, _, _, _ => none
 | k + 1, x1, x2, x8, x9, x11, x12, x13, x14, x15 => if x15 < (wrap64 (x8 + x9)) then (if 0 ≤ x15 then (if x15 < (x2.length : Int) then (if rdOf false x2 x15 = true then (if x13 ≥ 0 then (if x15 < (x1.length : Int) then (spec_Decode.j2 k x1 x2 x8 x9 x11 x12 x14 x15 (((rdOf ByteArray.empty x1 x15).size : Int) != x13)) else (none)) else (spec_Decode.j2 k x1 x2 x8 x9 x11 x12 x14 x15 false)) else (spec_Decode.l0 k x1 x2 x8 x9 x11 x12 x13 x14 (wrap64 (x15 + 1)))) else (none)) else (none)) else (if (x11.length : Int) < x8 then (some ((([] : List ByteArray)), false)) else ((spec_InvM.f k x11).bind fun bt480 => (if bt480.2 = true then ((spec_ApplyM.f k bt480.1 x12).bind fun t484 => (some (t484, true))) else (some ((([] : List ByteArray)), false)))))
def spec_Decode.j2 : Nat → List ByteArray → List Bool → Int → Int → List (List Int) → List ByteArray → List (List Int) → Int → Bool → Option (List ByteArray × Bool)
 | 0, _, _, _, _, _, _, _, _, _ => none
 | k + 1, x1, x2, x8, x9, x11, x12, x14, x15, x69 => if x69 = true then (some ((([] : List ByteArray)), false)) else (if 0 ≤ x15 then (if x15 < (x1.length : Int) then (if (x11.length : Int) < x8 then (if x15 < (x14.length : Int) then (if x11.length < 5864062014805 then (if x12.length < 8796093022208 then (spec_Decode.l0 k x1 x2 x8 x9 (x11 ++ [rd_L2 x14 x15]) (x12 ++ [rdOf ByteArray.empty x1 x15]) ((rdOf ByteArray.empty x1 x15).size : Int) x14 (wrap64 (x15 + 1))) else (none)) else (none)) else (none)) else (spec_Decode.l0 k x1 x2 x8 x9 x11 x12 ((rdOf ByteArray.empty x1 x15).size : Int) x14 (wrap64 (x15 + 1)))) else (none)) else (none))
end
def spec_Decode.f (k : Nat) (a0 : Int) (l1 : List ByteArray) (l2 : List Bool) : Option (List ByteArray × Bool) := (spec_SchemaOf.f a0).bind fun bt448 => (if bt448.2.2 = true then (if (l1.length : Int) = (wrap64 (bt448.1 + bt448.2.1)) then (spec_Decode.j0 k a0 l1 l2 bt448.1 bt448.2.1 ((l2.length : Int) != (wrap64 (bt448.1 + bt448.2.1)))) else (spec_Decode.j0 k a0 l1 l2 bt448.1 bt448.2.1 true)) else (spec_Decode.j0 k a0 l1 l2 bt448.1 bt448.2.1 true))
theorem spec_Decode.mono_l : ∀ k, (∀ y0 y1 y2 y3 y4 y5, LeO (spec_Decode.j0 k y0 y1 y2 y3 y4 y5) (spec_Decode.j0 (k + 1) y0 y1 y2 y3 y4 y5)) ∧ (∀ y0 y1 y2 y3 y4 y5 y6 y7 y8, LeO (spec_Decode.l0 k y0 y1 y2 y3 y4 y5 y6 y7 y8) (spec_Decode.l0 (k + 1) y0 y1 y2 y3 y4 y5 y6 y7 y8)) ∧ (∀ y0 y1 y2 y3 y4 y5 y6 y7 y8, LeO (spec_Decode.j2 k y0 y1 y2 y3 y4 y5 y6 y7 y8) (spec_Decode.j2 (k + 1) y0 y1 y2 y3 y4 y5 y6 y7 y8))
 | 0 => ⟨fun _ _ _ _ _ _ r h => by simp [spec_Decode.j0] at h, fun _ _ _ _ _ _ _ _ _ r h => by simp [spec_Decode.l0] at h, fun _ _ _ _ _ _ _ _ _ r h => by simp [spec_Decode.j2] at h⟩
 | k + 1 => by
  obtain ⟨ih0, ih1, ih2⟩ := spec_Decode.mono_l k
  refine ⟨?_, ?_, ?_⟩
  ·intro y0 y1 y2 y3 y4 y5
   unfold spec_Decode.j0
   repeat' first
   | (with_reducible exact LeO.refl _)
   | (with_reducible refine LeO.ite ?_ ?_)
   | (with_reducible refine LeO.bind ?_ (fun _ => ?_))
   | exact ih0 _ _ _ _ _ _
   | exact ih1 _ _ _ _ _ _ _ _ _
   | exact ih2 _ _ _ _ _ _ _ _ _
   | exact spec_ApplyM.mono _ _ _
   | exact spec_CodeOf.mono _ _
   | exact spec_InvM.mono _ _
   | exact LeO.none _
   | refine LeO.ite ?_ ?_
   | refine LeO.bind ?_ (fun _ => ?_)
  ·intro y0 y1 y2 y3 y4 y5 y6 y7 y8
   unfold spec_Decode.l0
   repeat' first
   | (with_reducible exact LeO.refl _)
   | (with_reducible refine LeO.ite ?_ ?_)
   | (with_reducible refine LeO.bind ?_ (fun _ => ?_))
   | exact ih0 _ _ _ _ _ _
   | exact ih1 _ _ _ _ _ _ _ _ _
   | exact ih2 _ _ _ _ _ _ _ _ _
   | exact spec_ApplyM.mono _ _ _
   | exact spec_CodeOf.mono _ _
   | exact spec_InvM.mono _ _
   | exact LeO.none _
   | refine LeO.ite ?_ ?_
   | refine LeO.bind ?_ (fun _ => ?_)
  intro y0 y1 y2 y3 y4 y5 y6 y7 y8
  unfold spec_Decode.j2
  repeat' first
  | (with_reducible exact LeO.refl _)
  | (with_reducible refine LeO.ite ?_ ?_)
  | (with_reducible refine LeO.bind ?_ (fun _ => ?_))
  | exact ih0 _ _ _ _ _ _
  | exact ih1 _ _ _ _ _ _ _ _ _
  | exact ih2 _ _ _ _ _ _ _ _ _
  | exact spec_ApplyM.mono _ _ _
  | exact spec_CodeOf.mono _ _
  | exact spec_InvM.mono _ _
  | exact LeO.none _
  | refine LeO.ite ?_ ?_
  | refine LeO.bind ?_ (fun _ => ?_)
theorem spec_Decode.mono : ∀ a0 a1 a2 k, LeO (spec_Decode.f k a0 a1 a2) (spec_Decode.f (k + 1) a0 a1 a2) := by
 intro a0 a1 a2 k
 obtain ⟨ih0, ih1, ih2⟩ := spec_Decode.mono_l k
 unfold spec_Decode.f
 repeat' first
   | (with_reducible exact LeO.refl _)
   | (with_reducible refine LeO.ite ?_ ?_)
   | (with_reducible refine LeO.bind ?_ (fun _ => ?_))
   | exact ih0 _ _ _ _ _ _
   | exact ih1 _ _ _ _ _ _ _ _ _
   | exact ih2 _ _ _ _ _ _ _ _ _
   | exact spec_ApplyM.mono _ _ _
   | exact spec_CodeOf.mono _ _
   | exact spec_InvM.mono _ _
   | exact LeO.none _
   | refine LeO.ite ?_ ?_
   | refine LeO.bind ?_ (fun _ => ?_)
set_option maxHeartbeats 8000000 in
set_option maxRecDepth 100000 in
theorem spec_Decode.calls (k : Nat) (a0 : Int) (A1 : Option Addr) (c1 : Nat) (l1 : List ByteArray) (A2 : Option Addr) (c2 : Nat) (l2 : List Bool) (r1 : List ByteArray) (r2 : Bool) (w : World) (hr1 : Kd.C Kd.string w A1 l1.length l1) (hc1 : l1.length ≤ c1) (hr2 : Kd.C Kd.bool w A2 l2.length l2) (hc2 : l2.length ≤ c2) (h : spec_Decode.f k a0 l1 l2 = some (r1, r2)) :
  Calls Try.prog 21 #[.int .i64 a0, .slice A1 l1.length c1, .slice A2 l2.length c2] w fun e w' => ∃ v0_ : Value, e = .returned (.tuple #[v0_, .bool r2]) ∧ Kd.R Kd.string 9 w' w.heap.size (fun _ => True) v0_ r1 ∧ Below w.heap.size w w' := by
 have HR1 := AM hr1
 have HC1 := AM hc1
 clear hr1 hc1
 have HR2 := AM hr2
 have HC2 := AM hc2
 clear hr2 hc2
 have HB := AM (Below.refl w.heap.size w)
 have H : ((spec_SchemaOf.f a0).bind fun bt448 => (if bt448.2.2 = true then (if (l1.length : Int) = (wrap64 (bt448.1 + bt448.2.1)) then (spec_Decode.j0 k a0 l1 l2 bt448.1 bt448.2.1 ((l2.length : Int) != (wrap64 (bt448.1 + bt448.2.1)))) else (spec_Decode.j0 k a0 l1 l2 bt448.1 bt448.2.1 true)) else (spec_Decode.j0 k a0 l1 l2 bt448.1 bt448.2.1 true))) = some (r1, r2) := h
 clear h
 replace H := bm H
 obtain ⟨⟨t448, t449, t450⟩, A40, H⟩ := H
 replace H : (if t450 = true then (if (l1.length : Int) = (wrap64 (t448 + t449)) then (spec_Decode.j0 k a0 l1 l2 t448 t449 ((l2.length : Int) != (wrap64 (t448 + t449)))) else (spec_Decode.j0 k a0 l1 l2 t448 t449 true)) else (spec_Decode.j0 k a0 l1 l2 t448 t449 true)) = some (r1, r2) := H
 have A4 := AM A40
 clear A40
 have HC5 := AM H
 clear H
 go_enter Try.func21, Try.ntmps21
 go_upto_region 2 with (first | ((with_reducible refine gate_callee (f := 28) rfl ?_); refine goesL_ (some 20) rfl rfl Try.func28 (by kernel_rfl) rfl #[.int .i64 a0] rfl (by (try simp only [List.map_toArray, List.map_cons, List.map_nil]); first | done | rfl) ?_; (with_reducible refine (spec_SchemaOf.calls a0 t448 t449 t450 _ A4.out).mono ?_); rintro e w' ⟨rfl, ⟨nd, rfl⟩⟩; refine ⟨_, rfl, ?_⟩))
 (try simp only [Act.put, qT, q0, qS])
 go_cut [41] (fun v41 wc => ∃ (kq : Nat) (x41_4 : Bool), v41 = .bool x41_4 ∧ Aside0 (spec_Decode.j0 kq a0 l1 l2 t448 t449 x41_4 = some (r1, r2)) ∧ Aside0 (kq ≤ k) ∧ Aside0 (Below w.heap.size w wc))
 case first =>
  have H := HC5.out
  clear HC5
  by_cases c6 : t450 = true
  ·subst c6
   have H1 : (if (l1.length : Int) = (wrap64 (t448 + t449)) then (spec_Decode.j0 k a0 l1 l2 t448 t449 ((l2.length : Int) != (wrap64 (t448 + t449)))) else (spec_Decode.j0 k a0 l1 l2 t448 t449 true)) = some (r1, r2) := by rw [if_pos rfl] at H; exact H
   clear H
   have H := H1
   clear H1
   by_cases c7 : (l1.length : Int) = (wrap64 (t448 + t449))
   ·rw [if_pos c7] at H
    have c7b0 : ((l1.length : Int) == (wrap64 (t448 + t449))) = true := beq_iff_eq.mpr c7
    have c7b1 : ((l1.length : Int) != (wrap64 (t448 + t449))) = false := bne_eq_false_iff_eq.mpr c7
    clear c7
    (first | rw [c7b0] | (simp only [i64_w, i32_w]; rw [c7b0]) | rw [c7b1] | skip)
    have H' := AM H
    clear H
    go_wp2
    go_meet
    case rel => exact ⟨_, (((l2.length : Int) != (wrap64 (t448 + t449)))), (by first | rfl | (simp; done) | (simp [*]; done)), H', ⟨by first | omega | exact Nat.le_refl _⟩, ⟨by repeat (first | exact HB.out | apply bA | apply bN | apply bD)⟩⟩
   rw [if_neg c7] at H
   have c7b0 : ((l1.length : Int) == (wrap64 (t448 + t449))) = false := beq_eq_false_iff_ne.mpr c7
   have c7b1 : ((l1.length : Int) != (wrap64 (t448 + t449))) = true := bne_iff_ne.mpr c7
   (first | rw [c7b0] | (simp only [i64_w, i32_w]; rw [c7b0]) | rw [c7b1] | skip)
   have H' := AM H
   clear H
   go_wp2
   go_meet
   case rel => exact ⟨_, (true), (by first | rfl | (simp; done) | (simp [*]; done)), H', ⟨by first | omega | exact Nat.le_refl _⟩, ⟨by repeat (first | exact HB.out | apply bA | apply bN | apply bD)⟩⟩
  replace c6 := Bool.eq_false_iff.mpr c6
  subst c6
  have H1 : (spec_Decode.j0 k a0 l1 l2 t448 t449 true) = some (r1, r2) := by rw [if_neg (show ¬ (false = true) by decide)] at H; exact H
  clear H
  have H := H1
  clear H1
  have H' := AM H
  clear H
  go_wp2
  go_meet
  case rel => exact ⟨_, (true), (by first | rfl | (simp; done) | (simp [*]; done)), H', ⟨by first | omega | exact Nat.le_refl _⟩, ⟨by repeat (first | exact HB.out | apply bA | apply bN | apply bD)⟩⟩
 case rest =>
  clear HC5
  obtain ⟨kq, x41_4, rfl, HA, HJ4, HB⟩ := hcut
  cases kq with
  | zero => exact absurd HA.out (by simp [spec_Decode.j0])
  | succ kj4 =>
   have H := HA.out
   clear HA
   simp only [spec_Decode.j0] at H
   by_cases c8 : x41_4 = true
   ·subst c8
    have H1 : (some ((([] : List ByteArray)), false)) = some (r1, r2) := by rw [if_pos rfl] at H; exact H
    clear H
    have H := H1
    clear H1
    obtain ⟨y451, hy451⟩ : ∃ y_ : List ByteArray, y_ = (([] : List ByteArray)) := ⟨_, rfl⟩
    replace H : (some (y451, false)) = some (r1, r2) := by first | (rw [hy451]; with_reducible exact H) | (have H2_ := (Option.bind_some _ _).symm.trans H; rw [hy451]; with_reducible exact H2_) | (have H2_ := (Option.bind_some _ _).symm.trans H; with_reducible exact H2_) | with_reducible exact H | (rw [hy451]; exact H) | exact H
    have Ny451 := AM hy451
    clear hy451
    simp only [Option.some.injEq, Prod.mk.injEq] at H
    obtain ⟨rfl, rfl⟩ := H
    go_wp2_with (first | ((with_reducible refine gate_dst (N := 42) rfl ?_); (try (refine gate_guard (by rfl) ?_; dsimp only)); refine Kd.R_lit Kd.string _ 9 ?hg (N := 42) ?hd (xs := ([] : List ByteArray)) (inner := []) (ok := fun _ => True) (okp := fun _ => True) ?hr ?hp (fun _ hk => hk) trivial (Below.refl _ _) (Nat.le_refl _) (by simp) ?_; (case hd => rfl); (case hg => rfl); (case hr => first | (go_simp; done) | (go_simp; rfl)); (case hp => exact (Reps.none _ _)); intro v452 w9 ho10 hb hg_ hnew_; clear hg_ hnew_; (first | rw [← Ny451.out] at ho10 | (simp only [Int.reduceToNat] at ho10; rw [← Ny451.out] at ho10)); have n0_ := AM (Kd.R_lower ho10 (below_size (by repeat (first | exact HB.out | apply bA | apply bN | apply bD)))); have n1_ := AM (below_step (by repeat (first | exact HB.out | apply bA | apply bN | apply bD)) hb); clear HB; have HO453 := n0_; have HB := n1_; clear n0_ n1_; clear hb ho10))
    go_ret2
    exact ⟨_, by first | rfl | (simp [errW_none, errW_some] <;> rfl) | (simp [*, errW_none, errW_some] <;> rfl), by exact HO453.out, by repeat (first | exact HB.out | apply bA | apply bN | apply bD)⟩
   replace c8 := Bool.eq_false_iff.mpr c8
   subst c8
   have H1 : ((spec_CodeOf.f kj4 a0).bind fun t460 => (spec_Decode.l0 kj4 l1 l2 t448 t449 (([] : List (List Int))) (([] : List ByteArray)) (-1) t460 0)) = some (r1, r2) := by rw [if_neg (show ¬ (false = true) by decide)] at H; exact H
   clear H
   have H := H1
   clear H1
   obtain ⟨y454, hy454⟩ : ∃ y_ : List (List Int), y_ = (([] : List (List Int))) := ⟨_, rfl⟩
   replace H : ((spec_CodeOf.f kj4 a0).bind fun t460 => (spec_Decode.l0 kj4 l1 l2 t448 t449 y454 (([] : List ByteArray)) (-1) t460 0)) = some (r1, r2) := by first | (rw [hy454]; with_reducible exact H) | (have H2_ := (Option.bind_some _ _).symm.trans H; rw [hy454]; with_reducible exact H2_) | (have H2_ := (Option.bind_some _ _).symm.trans H; with_reducible exact H2_) | with_reducible exact H | (rw [hy454]; exact H) | exact H
   have Ny454 := AM hy454
   clear hy454
   obtain ⟨y457, hy457⟩ : ∃ y_ : List ByteArray, y_ = (([] : List ByteArray)) := ⟨_, rfl⟩
   replace H : ((spec_CodeOf.f kj4 a0).bind fun t460 => (spec_Decode.l0 kj4 l1 l2 t448 t449 y454 y457 (-1) t460 0)) = some (r1, r2) := by first | (rw [hy457]; with_reducible exact H) | (have H2_ := (Option.bind_some _ _).symm.trans H; rw [hy457]; with_reducible exact H2_) | (have H2_ := (Option.bind_some _ _).symm.trans H; with_reducible exact H2_) | with_reducible exact H | (rw [hy457]; exact H) | exact H
   have Ny457 := AM hy457
   clear hy457
   replace H := bm H
   obtain ⟨t460, A110, H⟩ := H
   replace H : (spec_Decode.l0 kj4 l1 l2 t448 t449 y454 y457 (-1) t460 0) = some (r1, r2) := H
   have A11 := AM A110
   clear A110
   have H' := AM H
   clear H
   go_wp2_with (first | ((with_reducible refine gate_dst (N := 43) rfl ?_); (try (refine gate_guard (by rfl) ?_; dsimp only)); refine Kd.N_lit (Kd.slice 3 (Kd.int .i64)) _ 32 ?hg (N' := 43) ?hd (xs := ([] : List (List Int))) (inner := []) (ok := (fun _ => True)) (okp := (fun _ => True)) ?hr ?hp (fun _ hk => hk) ((show ∀ k_, wc.heap.size ≤ k_ → (fun _ => True) k_ from fun k_ hk => trivial) _ (Nat.le_refl _)) (Below.refl _ _) (Nat.le_refl _) (by simp) ?_; (case hd => rfl); (case hg => rfl); (case hr => first | (go_simp; done) | (go_simp; rfl)); (case hp => exact (Reps.none _ _)); intro v455 w12 ho13 hb hg_ hnew_; clear hg_ hnew_; (first | rw [← Ny454.out] at ho13 | (simp only [Int.reduceToNat] at ho13; rw [← Ny454.out] at ho13)); have n0_ := AM (Kd.N_lower ho13 (below_size (by repeat (first | exact HB.out | apply bA | apply bN | apply bD)))); have n1_ := AM (below_step (by repeat (first | exact HB.out | apply bA | apply bN | apply bD)) hb); clear HB; have HO456 := n0_; have HB := n1_; clear n0_ n1_; clear hb ho13) | ((with_reducible refine gate_dst (N := 44) rfl ?_); (try (refine gate_guard (by rfl) ?_; dsimp only)); refine Kd.R_lit Kd.string _ 9 ?hg (N := 44) ?hd (xs := ([] : List ByteArray)) (inner := []) (ok := fun _ => True) (okp := fun _ => True) ?hr ?hp (fun _ hk => hk) trivial (Below.refl _ _) (Nat.le_refl _) (by simp) ?_; (case hd => rfl); (case hg => rfl); (case hr => first | (go_simp; done) | (go_simp; rfl)); (case hp => exact (Reps.none _ _)); intro v458 w14 ho15 hb hg_ hnew_; clear hg_ hnew_; (first | rw [← Ny457.out] at ho15 | (simp only [Int.reduceToNat] at ho15; rw [← Ny457.out] at ho15)); have n0_ := AM (Kd.N_elder' (by exact HO456.out) (Kd.R_base ho15) hb); have n1_ := AM (Kd.R_lower ho15 (below_size (by repeat (first | exact HB.out | apply bA | apply bN | apply bD)))); have n2_ := AM (below_step (by repeat (first | exact HB.out | apply bA | apply bN | apply bD)) hb); clear HO456; clear HB; have HO456 := n0_; have HO459 := n1_; have HB := n2_; clear n0_ n1_ n2_; clear hb ho15) | ((with_reducible refine gate_callee (f := 35) rfl ?_); refine goesL_ (some 46) rfl rfl Try.func35 (by kernel_rfl) rfl #[.int .i64 a0] rfl (by (try simp only [List.map_toArray, List.map_cons, List.map_nil]); first | done | rfl) ?_; (with_reducible refine (spec_CodeOf.calls kj4 a0 t460 _ A11.out).mono ?_); rintro e w16 ⟨v461, rfl, ho0, hb⟩; refine ⟨_, rfl, ?_⟩; have n0_ := AM (Kd.N_elder' (by exact HO456.out) (Kd.N_base ho0) hb); have n1_ := AM (Kd.R_below (by exact HO459.out) hb); have n2_ := AM (Kd.N_lower (Kd.N_mono (ok' := fun k_ => some k_ ≠ (v455 : Value).ownBlock ∧ some k_ ≠ (v458 : Value).ownBlock) ho0 (fun k_ hk_ => ⟨(Kd.fresh' (Kd.N_lt (by exact HO456.out)) k_ hk_), (Kd.fresh' (Kd.R_lt (by exact HO459.out)) k_ hk_)⟩)) (below_size (by repeat (first | exact HB.out | apply bA | apply bN | apply bD)))); have n3_ := AM (below_step (by repeat (first | exact HB.out | apply bA | apply bN | apply bD)) hb); clear HO456; clear HO459; clear HB; have HO456 := n0_; have HO459 := n1_; have HO462 := n2_; have HB := n3_; clear n0_ n1_ n2_ n3_; (try clear hb); (try clear hk); (try clear ho0)))
   go_loopg [11, 12, 13, 15] kj4 (fun kq v11 v12 v13 v15 w' => ∃ (x11_2 : List (List Int)) (x12_2 : List ByteArray) (x13_2 : Int) (x15_2 : Int), v13 = .int .i64 x13_2 ∧ v15 = .int .i64 x15_2 ∧ Aside0 (spec_Decode.l0 kq l1 l2 t448 t449 x11_2 x12_2 x13_2 t460 x15_2 = some (r1, r2)) ∧ Aside0 (kq ≤ kj4) ∧ Aside0 (Kd.N (Kd.slice 3 (Kd.int .i64)) 32 w' w.heap.size (fun k_ => some k_ ≠ (v12 : Value).ownBlock ∧ some k_ ≠ (v461 : Value).ownBlock) v11 x11_2) ∧ Aside0 (Kd.R Kd.string 9 w' w.heap.size (fun _ => True) v12 x12_2) ∧ Aside0 (Kd.N (Kd.slice 3 (Kd.int .i64)) 32 w' w.heap.size (fun k_ => some k_ ≠ (v11 : Value).ownBlock ∧ some k_ ≠ (v12 : Value).ownBlock) v461 t460) ∧ Aside0 (Below w.heap.size w w'))
   case atStart => exact ⟨(y454), (y457), ((-1)), (0), (by first | rfl | (simp; done) | (simp [*]; done)), (by first | rfl | (simp; done) | (simp [*]; done)), H', ⟨Nat.le_refl _⟩, ⟨by exact Kd.N_mono HO456.out (fun _ hk => ⟨hk.1.2, hk.2⟩)⟩, ⟨by exact HO459.out⟩, ⟨by exact HO462.out⟩, ⟨by repeat (first | exact HB.out | apply bA | apply bN | apply bD)⟩⟩
   clear H'
   obtain ⟨x11_2, x12_2, x13_2, x15_2, rfl, rfl, HA, HK2, HO_11, HO_12, HO_14, HB⟩ := hrel
   cases gk with
   | zero => exact absurd HA.out (by simp [spec_Decode.l0])
   | succ k2 =>
    have H := HA.out
    clear HA
    simp only [spec_Decode.l0] at H
    by_cases c17 : x15_2 < (wrap64 (t448 + t449))
    ·rw [if_pos c17] at H
     have c17b0 : decide (x15_2 < (wrap64 (t448 + t449))) = true := decide_eq_true c17
     clear c17
     by_cases c18 : 0 ≤ x15_2
     ·rw [if_pos c18] at H
      have c18b0 : decide (0 ≤ x15_2) = true := decide_eq_true c18
      clear c18
      by_cases c19 : x15_2 < (l2.length : Int)
      ·rw [if_pos c19] at H
       have c19b0 : decide (x15_2 < (l2.length : Int)) = true := decide_eq_true c19
       clear c19
       obtain ⟨bq20, hbq20⟩ : ∃ b_ : Bool, b_ = (rdOf false l2 x15_2) := ⟨_, rfl⟩
       replace H : (if bq20 = true then (if x13_2 ≥ 0 then (if x15_2 < (l1.length : Int) then (spec_Decode.j2 k2 l1 l2 t448 t449 x11_2 x12_2 t460 x15_2 (((rdOf ByteArray.empty l1 x15_2).size : Int) != x13_2)) else (none)) else (spec_Decode.j2 k2 l1 l2 t448 t449 x11_2 x12_2 t460 x15_2 false)) else (spec_Decode.l0 k2 l1 l2 t448 t449 x11_2 x12_2 x13_2 t460 (wrap64 (x15_2 + 1)))) = some (r1, r2) := by rw [← hbq20] at H; exact H
       have Nbq20 := AM hbq20
       clear hbq20
       by_cases c21 : bq20 = true
       ·subst c21
        have H1 : (if x13_2 ≥ 0 then (if x15_2 < (l1.length : Int) then (spec_Decode.j2 k2 l1 l2 t448 t449 x11_2 x12_2 t460 x15_2 (((rdOf ByteArray.empty l1 x15_2).size : Int) != x13_2)) else (none)) else (spec_Decode.j2 k2 l1 l2 t448 t449 x11_2 x12_2 t460 x15_2 false)) = some (r1, r2) := by rw [if_pos rfl] at H; exact H
        clear H
        have H := H1
        clear H1
        have HC22 := AM H
        clear H
        have p463 : 0 ≤ (x15_2 : Int) := od
        have q463 : x15_2 < (l2.length : Int) := od
        obtain ⟨ad463, e463, hx463_0⟩ := Kd.at_bool HR2.out x15_2 p463 q463
        (try rw [← Nbq20.out] at hx463_0)
        cases e463
        replace hx463_0 := (HB.out.cell (World.block_lt_of_cell? w _ hx463_0)).trans hx463_0
        replace p463 := eq_true p463
        replace q463 := eq_true q463
        go_upto_region 12 with (fail)
        go_cut [69] (fun v69 wc => ∃ (kq : Nat) (x69_21 : Bool), v69 = .bool x69_21 ∧ Aside0 (spec_Decode.j2 kq l1 l2 t448 t449 x11_2 x12_2 t460 x15_2 x69_21 = some (r1, r2)) ∧ Aside0 (kq ≤ k2) ∧ Aside0 (Kd.N (Kd.slice 3 (Kd.int .i64)) 32 wc w.heap.size (fun k_ => some k_ ≠ (u12 : Value).ownBlock ∧ some k_ ≠ (v461 : Value).ownBlock) u11 x11_2) ∧ Aside0 (Kd.R Kd.string 9 wc w.heap.size (fun _ => True) u12 x12_2) ∧ Aside0 (Kd.N (Kd.slice 3 (Kd.int .i64)) 32 wc w.heap.size (fun k_ => some k_ ≠ (u11 : Value).ownBlock ∧ some k_ ≠ (u12 : Value).ownBlock) v461 t460) ∧ Aside0 (Below w.heap.size w wc))
        case first =>
         have H := HC22.out
         clear HC22
         by_cases c23 : x13_2 ≥ 0
         ·rw [if_pos c23] at H
          have c23b0 : decide (0 ≤ x13_2) = true := decide_eq_true c23
          clear c23
          (first | rw [c23b0] | (simp only [i64_w, i32_w]; rw [c23b0]) | rw [c23b1] | skip)
          by_cases c24 : x15_2 < (l1.length : Int)
          ·rw [if_pos c24] at H
           have c24b0 : decide (x15_2 < (l1.length : Int)) = true := decide_eq_true c24
           clear c24
           have H' := AM H
           clear H
           have p464 : 0 ≤ (x15_2 : Int) := od
           have q464 : x15_2 < (l1.length : Int) := od
           obtain ⟨ad464, e464, hx464_0⟩ := Kd.at_string HR1.out x15_2 p464 q464
           cases e464
           replace hx464_0 := (HB.out.cell (World.block_lt_of_cell? w _ hx464_0)).trans hx464_0
           replace p464 := eq_true p464
           replace q464 := eq_true q464
           go_wp2
           go_meet
           case rel => exact ⟨_, ((((rdOf ByteArray.empty l1 x15_2).size : Int) != x13_2)), (by first | rfl | (simp; done) | (simp [*]; done)), H', ⟨by have := HJ4.out; have := HK2.out; first | omega | exact Nat.le_refl _⟩, ⟨by exact HO_11.out⟩, ⟨by exact HO_12.out⟩, ⟨by exact HO_14.out⟩, ⟨by repeat (first | exact HB.out | apply bA | apply bN | apply bD)⟩⟩
          rw [if_neg c24] at H
          exact absurd H (by simp)
         rw [if_neg c23] at H
         have c23b0 : decide (0 ≤ x13_2) = false := decide_eq_false c23
         clear c23
         (first | rw [c23b0] | (simp only [i64_w, i32_w]; rw [c23b0]) | rw [c23b1] | skip)
         have H' := AM H
         clear H
         go_wp2
         go_meet
         case rel => exact ⟨_, (false), (by first | rfl | (simp; done) | (simp [*]; done)), H', ⟨by have := HJ4.out; have := HK2.out; first | omega | exact Nat.le_refl _⟩, ⟨by exact HO_11.out⟩, ⟨by exact HO_12.out⟩, ⟨by exact HO_14.out⟩, ⟨by repeat (first | exact HB.out | apply bA | apply bN | apply bD)⟩⟩
        case rest =>
         clear HC22
         obtain ⟨kq, x69_21, rfl, HA, HJ21, HO_11, HO_12, HO_14, HB⟩ := hcut
         cases kq with
         | zero => exact absurd HA.out (by simp [spec_Decode.j2])
         | succ kj21 =>
          have H := HA.out
          clear HA
          simp only [spec_Decode.j2] at H
          by_cases c25 : x69_21 = true
          ·subst c25
           have H1 : (some ((([] : List ByteArray)), false)) = some (r1, r2) := by rw [if_pos rfl] at H; exact H
           clear H
           have H := H1
           clear H1
           obtain ⟨y465, hy465⟩ : ∃ y_ : List ByteArray, y_ = (([] : List ByteArray)) := ⟨_, rfl⟩
           replace H : (some (y465, false)) = some (r1, r2) := by first | (rw [hy465]; with_reducible exact H) | (have H2_ := (Option.bind_some _ _).symm.trans H; rw [hy465]; with_reducible exact H2_) | (have H2_ := (Option.bind_some _ _).symm.trans H; with_reducible exact H2_) | with_reducible exact H | (rw [hy465]; exact H) | exact H
           have Ny465 := AM hy465
           clear hy465
           simp only [Option.some.injEq, Prod.mk.injEq] at H
           obtain ⟨rfl, rfl⟩ := H
           go_wp2_with (first | ((with_reducible refine gate_dst (N := 70) rfl ?_); (try (refine gate_guard (by rfl) ?_; dsimp only)); refine Kd.R_lit Kd.string _ 9 ?hg (N := 70) ?hd (xs := ([] : List ByteArray)) (inner := []) (ok := fun _ => True) (okp := fun _ => True) ?hr ?hp (fun _ hk => hk) trivial (Below.refl _ _) (Nat.le_refl _) (by simp) ?_; (case hd => rfl); (case hg => rfl); (case hr => first | (go_simp; done) | (go_simp; rfl)); (case hp => exact (Reps.none _ _)); intro v466 w26 ho27 hb hg_ hnew_; clear hg_ hnew_; (first | rw [← Ny465.out] at ho27 | (simp only [Int.reduceToNat] at ho27; rw [← Ny465.out] at ho27)); have n0_ := AM (Kd.N_elder' (by exact HO_11.out) (Kd.R_base ho27) hb); have n1_ := AM (Kd.R_elder' (by exact HO_12.out) (Kd.R_base ho27) hb); have n2_ := AM (Kd.N_elder' (by exact HO_14.out) (Kd.R_base ho27) hb); have n3_ := AM (Kd.R_lower (Kd.R_new' ho27 (Kd.R_lt (by exact HO_12.out))) (below_size (by repeat (first | exact HB.out | apply bA | apply bN | apply bD)))); have n4_ := AM (below_step (by repeat (first | exact HB.out | apply bA | apply bN | apply bD)) hb); clear HO_11; clear HO_12; clear HO_14; clear HB; have HO_11 := n0_; have HO_12 := n1_; have HO_14 := n2_; have HO467 := n3_; have HB := n4_; clear n0_ n1_ n2_ n3_ n4_; clear hb ho27))
           go_ret2
           exact ⟨_, by first | rfl | (simp [errW_none, errW_some] <;> rfl) | (simp [*, errW_none, errW_some] <;> rfl), by exact Kd.R_mono HO467.out (fun _ hk => trivial), by repeat (first | exact HB.out | apply bA | apply bN | apply bD)⟩
          replace c25 := Bool.eq_false_iff.mpr c25
          subst c25
          have H1 : (if 0 ≤ x15_2 then (if x15_2 < (l1.length : Int) then (if (x11_2.length : Int) < t448 then (if x15_2 < (t460.length : Int) then (if x11_2.length < 5864062014805 then (if x12_2.length < 8796093022208 then (spec_Decode.l0 kj21 l1 l2 t448 t449 (x11_2 ++ [rd_L2 t460 x15_2]) (x12_2 ++ [rdOf ByteArray.empty l1 x15_2]) ((rdOf ByteArray.empty l1 x15_2).size : Int) t460 (wrap64 (x15_2 + 1))) else (none)) else (none)) else (none)) else (spec_Decode.l0 kj21 l1 l2 t448 t449 x11_2 x12_2 ((rdOf ByteArray.empty l1 x15_2).size : Int) t460 (wrap64 (x15_2 + 1)))) else (none)) else (none)) = some (r1, r2) := by rw [if_neg (show ¬ (false = true) by decide)] at H; exact H
          clear H
          have H := H1
          clear H1
          by_cases c28 : 0 ≤ x15_2
          ·rw [if_pos c28] at H
           have c28b0 : decide (0 ≤ x15_2) = true := decide_eq_true c28
           clear c28
           by_cases c29 : x15_2 < (l1.length : Int)
           ·rw [if_pos c29] at H
            have c29b0 : decide (x15_2 < (l1.length : Int)) = true := decide_eq_true c29
            clear c29
            by_cases c30 : (x11_2.length : Int) < t448
            ·rw [if_pos c30] at H
             have c30b0 : decide ((x11_2.length : Int) < t448) = true := decide_eq_true c30
             clear c30
             by_cases c31 : x15_2 < (t460.length : Int)
             ·rw [if_pos c31] at H
              have c31b0 : decide (x15_2 < (t460.length : Int)) = true := decide_eq_true c31
              clear c31
              by_cases c32 : x11_2.length < 5864062014805
              ·rw [if_pos c32] at H
               have LMc32 := AM c32
               clear c32
               obtain ⟨y470, hy470⟩ : ∃ y_ : List (List Int), y_ = (x11_2 ++ [rd_L2 t460 x15_2]) := ⟨_, rfl⟩
               replace H : (if x12_2.length < 8796093022208 then (spec_Decode.l0 kj21 l1 l2 t448 t449 y470 (x12_2 ++ [rdOf ByteArray.empty l1 x15_2]) ((rdOf ByteArray.empty l1 x15_2).size : Int) t460 (wrap64 (x15_2 + 1))) else (none)) = some (r1, r2) := by first | (rw [hy470]; with_reducible exact H) | (have H2_ := (Option.bind_some _ _).symm.trans H; rw [hy470]; with_reducible exact H2_) | (have H2_ := (Option.bind_some _ _).symm.trans H; with_reducible exact H2_) | with_reducible exact H | (rw [hy470]; exact H) | exact H
               have Ny470 := AM hy470
               clear hy470
               by_cases c33 : x12_2.length < 8796093022208
               ·rw [if_pos c33] at H
                have LMc33 := AM c33
                clear c33
                obtain ⟨y474, hy474⟩ : ∃ y_ : List ByteArray, y_ = (x12_2 ++ [rdOf ByteArray.empty l1 x15_2]) := ⟨_, rfl⟩
                replace H : (spec_Decode.l0 kj21 l1 l2 t448 t449 y470 y474 ((rdOf ByteArray.empty l1 x15_2).size : Int) t460 (wrap64 (x15_2 + 1))) = some (r1, r2) := by first | (rw [hy474]; with_reducible exact H) | (have H2_ := (Option.bind_some _ _).symm.trans H; rw [hy474]; with_reducible exact H2_) | (have H2_ := (Option.bind_some _ _).symm.trans H; with_reducible exact H2_) | with_reducible exact H | (rw [hy474]; exact H) | exact H
                have Ny474 := AM hy474
                clear hy474
                have H' := AM H
                clear H
                have p468 : 0 ≤ (x15_2 : Int) := od
                have q468 : x15_2 < (l1.length : Int) := od
                obtain ⟨ad468, e468, hx468_0⟩ := Kd.at_string HR1.out x15_2 p468 q468
                cases e468
                replace hx468_0 := (HB.out.cell (World.block_lt_of_cell? w _ hx468_0)).trans hx468_0
                replace p468 := eq_true p468
                replace q468 := eq_true q468
                obtain ⟨Ao34, co34, eo34⟩ := Kd.N_slice HO_11.out
                subst eo34
                obtain ⟨Ao35, co35, eo35⟩ := Kd.N_slice HO_14.out
                subst eo35
                have p469 : 0 ≤ (x15_2 : Int) := od
                have q469 : x15_2 < (t460.length : Int) := od
                obtain ⟨ad469, A469_0, c469_0, e469, hx469_0, hl469_0, hi469_0⟩ := at_L2 (Kd.N_reads' HO_14.out).2.2 x15_2 p469 q469
                cases e469
                obtain ⟨ce469, hce469, hMe469, hcc469⟩ := Kd.N_get HO_14.out [] x15_2 p469 (by first | exact q469 | exact od | (have e_ := (Kd.N_reads' HO_14.out).1; omega))
                obtain ⟨ua469_0, uc469_0, rfl, ul469_0, ge469_0⟩ := Kd.FK_slice_open hMe469
                have hv469_0 := hcc469 0 _ rfl
                rw [Nat.add_zero, show ((Kd.slice 3 (Kd.int .i64))).sz = 1 from rfl, Nat.mul_one] at hv469_0
                replace hv469_0 := Option.some.inj (hv469_0.symm.trans hx469_0)
                injection hv469_0 with hva_ hvn_ hvc_
                rw [hva_] at ge469_0
                rw [hvc_] at ul469_0
                have HL469_0 := AM (show Kd.V (Kd.int .i64) 3 _ w.heap.size _ _ (rd_L2 t460 x15_2) from Kd.V_mk ul469_0 ge469_0)
                clear hva_ hvn_ hvc_ ge469_0 ul469_0
                clear hcc469 hce469
                have HR469_0 := AM hi469_0
                have HC469_0 := AM hl469_0
                clear hi469_0 hl469_0
                replace p469 := eq_true p469
                replace q469 := eq_true q469
                go_wp2_with (first | ((with_reducible refine gate_builtin (b := .append) (xs := #[.tmp 80, .tmp 85]) rfl ?_); (try (refine gate_guard (by rfl) ?_; dsimp only)); at_builtin; refine Kd.N_append (Kd.slice 3 (Kd.int .i64)) (w0 := w) w.heap.size rfl (.tmp 80) (.tmp 85) 49 32 (.slice none 0 0) 24 rfl Try.underlying49 info32 rfl (by decide) (by omega) (.slice Ao34 x11_2.length co34) x11_2 (rd_L2 t460 x15_2) [.slice A469_0 (rd_L2 t460 x15_2).length c469_0] (fun k_ => some k_ ≠ (u12 : Value).ownBlock ∧ some k_ ≠ (.slice (some ad469) t460.length co35 : Value).ownBlock) (fun k_ => ((fun k_ => some k_ ≠ (u12 : Value).ownBlock ∧ some k_ ≠ (.slice (some ad469) t460.length co35 : Value).ownBlock)) k_ ∧ some k_ ≠ (.slice Ao34 x11_2.length co34 : Value).ownBlock) rfl rfl ?aP (fun _ hk => hk) ?aF ?aO ?aB ?aS ?aL ?_; (case aP => exact (Kd.FK_slice_mk (Kd.V_reads' (Kd.V_mono (ok' := (fun k_ => ((fun k_ => some k_ ≠ (u12 : Value).ownBlock ∧ some k_ ≠ (.slice (some ad469) t460.length co35 : Value).ownBlock)) k_ ∧ some k_ ≠ (.slice Ao34 x11_2.length co34 : Value).ownBlock)) (HL469_0.out) (fun k_ hk => ⟨⟨hk.1.2, hk.2⟩, hk.1.1⟩))).2.1 (Kd.V_F (Kd.V_mono (ok' := (fun k_ => ((fun k_ => some k_ ≠ (u12 : Value).ownBlock ∧ some k_ ≠ (.slice (some ad469) t460.length co35 : Value).ownBlock)) k_ ∧ some k_ ≠ (.slice Ao34 x11_2.length co34 : Value).ownBlock)) (HL469_0.out) (fun k_ hk => ⟨⟨hk.1.2, hk.2⟩, hk.1.1⟩))))); (case aB => exact (by repeat (first | exact HB.out | apply bA | apply bN | apply bD))); (case aF => exact (fun k_ hk => ⟨Kd.fresh' (Kd.R_lt (by exact HO_12.out)) k_ hk, Kd.fresh' (Kd.N_lt (by exact HO_14.out)) k_ hk⟩)); (case aO => exact (by exact HO_11.out)); (case aS => exact (below_size (by repeat (first | exact HB.out | apply bA | apply bN | apply bD)))); (case aL => have := LMc32.out; omega); intro v471 w36 ho hb hg hat; rw [← Ny470.out] at ho; have n0_ := AM (Kd.R_over' (by exact HO_12.out) (Kd.N_typed (by exact HO_11.out)) (by decide) hg); have n1_ := AM (Kd.N_afterv (ok := (fun k_ => some k_ ≠ (u12 : Value).ownBlock)) (by exact Kd.N_mono HO_14.out (fun _ hk => ⟨hk.2, hk.1⟩)) hg hat); have n2_ := AM (Kd.V_afterv (ok := (fun k_ => some k_ ≠ (u12 : Value).ownBlock ∧ some k_ ≠ (.slice (some ad469) t460.length co35 : Value).ownBlock)) (by exact Kd.V_mono HL469_0.out (fun _ hk => ⟨⟨hk.1.2, hk.2⟩, hk.1.1⟩)) hg hat); have n3_ := AM (hb); have n4_ := AM (ho); clear HO_12; clear HO_14; clear HL469_0; clear HB; clear HO_11; have HO_12 := n0_; have HO_14 := n1_; have HL469_0 := n2_; have HB := n3_; have HO472 := n4_; clear n0_ n1_ n2_ n3_ n4_; clear ho hb hg hat; have p473 : 0 ≤ (x15_2 : Int) := od; have q473 : x15_2 < (l1.length : Int) := od; obtain ⟨ad473, e473, hx473_0⟩ := Kd.at_string HR1.out x15_2 p473 q473; obtain rfl : ad468 = ad473 := (by injection e473); replace hx473_0 := (HB.out.cell (World.block_lt_of_cell? w _ hx473_0)).trans hx473_0; replace p473 := eq_true p473; replace q473 := eq_true q473) | ((with_reducible refine gate_builtin (b := .append) (xs := #[.tmp 87, .tmp 92]) rfl ?_); (try (refine gate_guard (by rfl) ?_; dsimp only)); at_builtin; refine Kd.R_append Kd.string (w0 := w) w.heap.size rfl (.tmp 87) (.tmp 92) 24 9 (.string ⟨#[]⟩) 16 rfl Try.underlying24 info9 rfl (by decide) (by omega) u12 x12_2 (rdOf ByteArray.empty l1 x15_2) [.string (rdOf ByteArray.empty l1 x15_2)] (fun _ => True) (fun _ => False) rfl rfl ?aP (fun _ hk => hk.elim) ?aF ?aO ?aB ?aS ?aL ?_; (case aP => exact rfl); (case aB => exact (by repeat (first | exact HB.out | apply bA | apply bN | apply bD))); (case aF => exact (fun _ _ => trivial)); (case aO => exact (by exact HO_12.out)); (case aS => exact (below_size (by repeat (first | exact HB.out | apply bA | apply bN | apply bD)))); (case aL => have := LMc33.out; omega); intro v475 w37 ho hb hg hat; rw [← Ny474.out] at ho; have n0_ := AM (Kd.N_afterv (ok := (fun k_ => some k_ ≠ (v471 : Value).ownBlock)) (by exact Kd.N_mono HO_14.out (fun _ hk => ⟨hk.2, hk.1⟩)) hg hat); have n1_ := AM (Kd.V_afterv (ok := (fun k_ => some k_ ≠ (.slice (some ad469) t460.length co35 : Value).ownBlock ∧ some k_ ≠ (v471 : Value).ownBlock)) (by exact Kd.V_mono HL469_0.out (fun _ hk => ⟨⟨hk.1.2, hk.2⟩, hk.1.1⟩)) hg hat); have n2_ := AM (Kd.N_afterv (ok := (fun k_ => some k_ ≠ (.slice (some ad469) t460.length co35 : Value).ownBlock)) (by exact Kd.N_mono HO472.out (fun _ hk => ⟨hk.2, hk.1⟩)) hg hat); have n3_ := AM (hb); have n4_ := AM (ho); clear HO_14; clear HL469_0; clear HO472; clear HB; clear HO_12; have HO_14 := n0_; have HL469_0 := n1_; have HO472 := n2_; have HB := n3_; have HO476 := n4_; clear n0_ n1_ n2_ n3_ n4_; clear ho hb hg hat))
                go_roundg kj21
                case measure => have := HJ4.out; have := HK2.out; have := HJ21.out; omega
                case rel => exact ⟨(y470), (y474), (((rdOf ByteArray.empty l1 x15_2).size : Int)), (wrap64 (x15_2 + 1)), (by first | rfl | (simp; done) | (simp [*]; done)), (by first | rfl | (simp; done) | (simp [*]; done)), H', ⟨by have := HJ4.out; have := HK2.out; have := HJ21.out; omega⟩, ⟨by exact Kd.N_mono HO472.out (fun _ hk => ⟨hk.2, hk.1⟩)⟩, ⟨by exact HO476.out⟩, ⟨by exact HO_14.out⟩, ⟨by repeat (first | exact HB.out | apply bA | apply bN | apply bD)⟩⟩
               rw [if_neg c33] at H
               exact absurd H (by simp)
              rw [if_neg c32] at H
              exact absurd H (by simp)
             rw [if_neg c31] at H
             exact absurd H (by simp)
            rw [if_neg c30] at H
            have c30b0 : decide ((x11_2.length : Int) < t448) = false := decide_eq_false c30
            clear c30
            have H' := AM H
            clear H
            have p468 : 0 ≤ (x15_2 : Int) := od
            have q468 : x15_2 < (l1.length : Int) := od
            obtain ⟨ad468, e468, hx468_0⟩ := Kd.at_string HR1.out x15_2 p468 q468
            cases e468
            replace hx468_0 := (HB.out.cell (World.block_lt_of_cell? w _ hx468_0)).trans hx468_0
            replace p468 := eq_true p468
            replace q468 := eq_true q468
            obtain ⟨Ao38, co38, eo38⟩ := Kd.N_slice HO_11.out
            subst eo38
            go_wp2
            go_roundg kj21
            case measure => have := HJ4.out; have := HK2.out; have := HJ21.out; omega
            case rel => exact ⟨(x11_2), (x12_2), (((rdOf ByteArray.empty l1 x15_2).size : Int)), (wrap64 (x15_2 + 1)), (by first | rfl | (simp; done) | (simp [*]; done)), (by first | rfl | (simp; done) | (simp [*]; done)), H', ⟨by have := HJ4.out; have := HK2.out; have := HJ21.out; omega⟩, ⟨by exact HO_11.out⟩, ⟨by exact HO_12.out⟩, ⟨by exact HO_14.out⟩, ⟨by repeat (first | exact HB.out | apply bA | apply bN | apply bD)⟩⟩
           rw [if_neg c29] at H
           exact absurd H (by simp)
          rw [if_neg c28] at H
          exact absurd H (by simp)
       replace c21 := Bool.eq_false_iff.mpr c21
       subst c21
       have H1 : (spec_Decode.l0 k2 l1 l2 t448 t449 x11_2 x12_2 x13_2 t460 (wrap64 (x15_2 + 1))) = some (r1, r2) := by rw [if_neg (show ¬ (false = true) by decide)] at H; exact H
       clear H
       have H := H1
       clear H1
       have H' := AM H
       clear H
       have p463 : 0 ≤ (x15_2 : Int) := od
       have q463 : x15_2 < (l2.length : Int) := od
       obtain ⟨ad463, e463, hx463_0⟩ := Kd.at_bool HR2.out x15_2 p463 q463
       (try rw [← Nbq20.out] at hx463_0)
       cases e463
       replace hx463_0 := (HB.out.cell (World.block_lt_of_cell? w _ hx463_0)).trans hx463_0
       replace p463 := eq_true p463
       replace q463 := eq_true q463
       go_wp2
       go_roundg k2
       case measure => have := HJ4.out; have := HK2.out; omega
       case rel => exact ⟨(x11_2), (x12_2), (x13_2), (wrap64 (x15_2 + 1)), (by first | rfl | (simp; done) | (simp [*]; done)), (by first | rfl | (simp; done) | (simp [*]; done)), H', ⟨by have := HJ4.out; have := HK2.out; omega⟩, ⟨by exact HO_11.out⟩, ⟨by exact HO_12.out⟩, ⟨by exact HO_14.out⟩, ⟨by repeat (first | exact HB.out | apply bA | apply bN | apply bD)⟩⟩
      rw [if_neg c19] at H
      exact absurd H (by simp)
     rw [if_neg c18] at H
     exact absurd H (by simp)
    rw [if_neg c17] at H
    have c17b0 : decide (x15_2 < (wrap64 (t448 + t449))) = false := decide_eq_false c17
    clear c17
    by_cases c39 : (x11_2.length : Int) < t448
    ·rw [if_pos c39] at H
     have c39b0 : decide ((x11_2.length : Int) < t448) = true := decide_eq_true c39
     clear c39
     obtain ⟨y477, hy477⟩ : ∃ y_ : List ByteArray, y_ = (([] : List ByteArray)) := ⟨_, rfl⟩
     replace H : (some (y477, false)) = some (r1, r2) := by first | (rw [hy477]; with_reducible exact H) | (have H2_ := (Option.bind_some _ _).symm.trans H; rw [hy477]; with_reducible exact H2_) | (have H2_ := (Option.bind_some _ _).symm.trans H; with_reducible exact H2_) | with_reducible exact H | (rw [hy477]; exact H) | exact H
     have Ny477 := AM hy477
     clear hy477
     simp only [Option.some.injEq, Prod.mk.injEq] at H
     obtain ⟨rfl, rfl⟩ := H
     obtain ⟨Ao40, co40, eo40⟩ := Kd.N_slice HO_11.out
     subst eo40
     go_wp2_with (first | ((with_reducible refine gate_dst (N := 98) rfl ?_); (try (refine gate_guard (by rfl) ?_; dsimp only)); refine Kd.R_lit Kd.string _ 9 ?hg (N := 98) ?hd (xs := ([] : List ByteArray)) (inner := []) (ok := fun _ => True) (okp := fun _ => True) ?hr ?hp (fun _ hk => hk) trivial (Below.refl _ _) (Nat.le_refl _) (by simp) ?_; (case hd => rfl); (case hg => rfl); (case hr => first | (go_simp; done) | (go_simp; rfl)); (case hp => exact (Reps.none _ _)); intro v478 w41 ho42 hb hg_ hnew_; clear hg_ hnew_; (first | rw [← Ny477.out] at ho42 | (simp only [Int.reduceToNat] at ho42; rw [← Ny477.out] at ho42)); have n0_ := AM (Kd.N_elder' (by exact HO_11.out) (Kd.R_base ho42) hb); have n1_ := AM (Kd.R_elder' (by exact HO_12.out) (Kd.R_base ho42) hb); have n2_ := AM (Kd.N_elder' (by exact HO_14.out) (Kd.R_base ho42) hb); have n3_ := AM (Kd.R_lower (Kd.R_new' ho42 (Kd.R_lt (by exact HO_12.out))) (below_size (by repeat (first | exact HB.out | apply bA | apply bN | apply bD)))); have n4_ := AM (below_step (by repeat (first | exact HB.out | apply bA | apply bN | apply bD)) hb); clear HO_11; clear HO_12; clear HO_14; clear HB; have HO_11 := n0_; have HO_12 := n1_; have HO_14 := n2_; have HO479 := n3_; have HB := n4_; clear n0_ n1_ n2_ n3_ n4_; clear hb ho42))
     go_ret2
     exact ⟨_, by first | rfl | (simp [errW_none, errW_some] <;> rfl) | (simp [*, errW_none, errW_some] <;> rfl), by exact Kd.R_mono HO479.out (fun _ hk => trivial), by repeat (first | exact HB.out | apply bA | apply bN | apply bD)⟩
    rw [if_neg c39] at H
    have c39b0 : decide ((x11_2.length : Int) < t448) = false := decide_eq_false c39
    clear c39
    replace H := bm H
    obtain ⟨⟨t480, t483⟩, A430, H⟩ := H
    replace H : (if t483 = true then ((spec_ApplyM.f k2 t480 x12_2).bind fun t484 => (some (t484, true))) else (some ((([] : List ByteArray)), false))) = some (r1, r2) := H
    have A43 := AM A430
    clear A430
    by_cases c44 : t483 = true
    ·subst c44
     have H1 : ((spec_ApplyM.f k2 t480 x12_2).bind fun t484 => (some (t484, true))) = some (r1, r2) := by rw [if_pos rfl] at H; exact H
     clear H
     have H := H1
     clear H1
     replace H := bm H
     obtain ⟨t484, A450, H⟩ := H
     replace H : (some (t484, true)) = some (r1, r2) := H
     have A45 := AM A450
     clear A450
     simp only [Option.some.injEq, Prod.mk.injEq] at H
     obtain ⟨rfl, rfl⟩ := H
     obtain ⟨Ao46, co46, eo46⟩ := Kd.N_slice HO_11.out
     subst eo46
     go_wp2_with (first | ((with_reducible refine gate_callee (f := 39) rfl ?_); refine goesL_ (some 101) rfl rfl Try.func39 (by kernel_rfl) rfl #[.slice Ao46 x11_2.length co46] rfl (by (try simp only [List.map_toArray, List.map_cons, List.map_nil]); first | done | rfl) ?_; (with_reducible refine (spec_InvM.calls k2 _ _ x11_2 t480 true _ ?side1 ?side2 A43.out).mono ?_); (case side1 => repeat (first | exact (Kd.N_reads' HO_11.out).2.2 | (with_reducible refine Kd.C_alloc ?_ _) | (with_reducible refine Kd.C_drewN ?_ _) | (with_reducible refine Kd.C_drew ?_))); (case side2 => exact (Kd.N_reads' HO_11.out).2.1); rintro e w47 ⟨v481, rfl, ho0, hb⟩; refine ⟨_, rfl, ?_⟩; have n0_ := AM (Kd.N_elder' (by exact HO_11.out) (Kd.N_base ho0) hb); have n1_ := AM (Kd.R_below (by exact HO_12.out) hb); have n2_ := AM (Kd.N_elder' (by exact HO_14.out) (Kd.N_base ho0) hb); have n3_ := AM (Kd.N_lower (Kd.N_mono (ok' := fun k_ => some k_ ≠ (.slice Ao46 x11_2.length co46 : Value).ownBlock ∧ some k_ ≠ (u12 : Value).ownBlock ∧ some k_ ≠ (v461 : Value).ownBlock) ho0 (fun k_ hk_ => ⟨(Kd.fresh' (Kd.N_lt (by exact HO_11.out)) k_ hk_), (Kd.fresh' (Kd.R_lt (by exact HO_12.out)) k_ hk_), (Kd.fresh' (Kd.N_lt (by exact HO_14.out)) k_ hk_)⟩)) (below_size (by repeat (first | exact HB.out | apply bA | apply bN | apply bD)))); have n4_ := AM (below_step (by repeat (first | exact HB.out | apply bA | apply bN | apply bD)) hb); clear HO_11; clear HO_12; clear HO_14; clear HB; have HO_11 := n0_; have HO_12 := n1_; have HO_14 := n2_; have HO482 := n3_; have HB := n4_; clear n0_ n1_ n2_ n3_ n4_; (try clear hb); (try clear ho0); obtain ⟨Ao48, co48, eo48⟩ := Kd.N_slice HO482.out; subst eo48; obtain ⟨Ao49, co49, eo49⟩ := Kd.R_slice HO_12.out; subst eo49) | ((with_reducible refine gate_callee (f := 34) rfl ?_); refine goesL_ (some 109) rfl rfl Try.func34 (by kernel_rfl) rfl #[.slice Ao48 t480.length co48, .slice Ao49 x12_2.length co49] rfl (by (try simp only [List.map_toArray, List.map_cons, List.map_nil]); first | done | rfl) ?_; (with_reducible refine (spec_ApplyM.calls k2 _ _ t480 _ _ x12_2 t484 _ ?side1 ?side2 ?side3 ?side4 A45.out).mono ?_); (case side1 => repeat (first | exact (Kd.N_reads' HO482.out).2.2 | (with_reducible refine Kd.C_alloc ?_ _) | (with_reducible refine Kd.C_drewN ?_ _) | (with_reducible refine Kd.C_drew ?_))); (case side2 => exact (Kd.N_reads' HO482.out).2.1); (case side3 => repeat (first | exact (Kd.R_reads' HO_12.out).2.2 | (with_reducible refine Kd.C_alloc ?_ _) | (with_reducible refine Kd.C_drewN ?_ _) | (with_reducible refine Kd.C_drew ?_))); (case side4 => exact (Kd.R_reads' HO_12.out).2.1); rintro e w50 ⟨v485, rfl, ho0, hb⟩; refine ⟨_, rfl, ?_⟩; have n0_ := AM (Kd.N_elder' (by exact HO_11.out) (Kd.R_base ho0) hb); have n1_ := AM (Kd.R_elder' (by exact HO_12.out) (Kd.R_base ho0) hb); have n2_ := AM (Kd.N_elder' (by exact HO_14.out) (Kd.R_base ho0) hb); have n3_ := AM (Kd.N_elder' (by exact HO482.out) (Kd.R_base ho0) hb); have n4_ := AM (Kd.R_lower (Kd.R_new' ho0 (Kd.R_lt (by exact HO_12.out))) (below_size (by repeat (first | exact HB.out | apply bA | apply bN | apply bD)))); have n5_ := AM (below_step (by repeat (first | exact HB.out | apply bA | apply bN | apply bD)) hb); clear HO_11; clear HO_12; clear HO_14; clear HO482; clear HB; have HO_11 := n0_; have HO_12 := n1_; have HO_14 := n2_; have HO482 := n3_; have HO486 := n4_; have HB := n5_; clear n0_ n1_ n2_ n3_ n4_ n5_; (try clear hb); (try clear hk); (try clear ho0)))
     go_ret2
     exact ⟨_, by first | rfl | (simp [errW_none, errW_some] <;> rfl) | (simp [*, errW_none, errW_some] <;> rfl), by exact Kd.R_mono HO486.out (fun _ hk => trivial), by repeat (first | exact HB.out | apply bA | apply bN | apply bD)⟩
    replace c44 := Bool.eq_false_iff.mpr c44
    subst c44
    have H1 : (some ((([] : List ByteArray)), false)) = some (r1, r2) := by rw [if_neg (show ¬ (false = true) by decide)] at H; exact H
    clear H
    have H := H1
    clear H1
    obtain ⟨y487, hy487⟩ : ∃ y_ : List ByteArray, y_ = (([] : List ByteArray)) := ⟨_, rfl⟩
    replace H : (some (y487, false)) = some (r1, r2) := by first | (rw [hy487]; with_reducible exact H) | (have H2_ := (Option.bind_some _ _).symm.trans H; rw [hy487]; with_reducible exact H2_) | (have H2_ := (Option.bind_some _ _).symm.trans H; with_reducible exact H2_) | with_reducible exact H | (rw [hy487]; exact H) | exact H
    have Ny487 := AM hy487
    clear hy487
    simp only [Option.some.injEq, Prod.mk.injEq] at H
    obtain ⟨rfl, rfl⟩ := H
    obtain ⟨Ao51, co51, eo51⟩ := Kd.N_slice HO_11.out
    subst eo51
    go_wp2_with (first | ((with_reducible refine gate_callee (f := 39) rfl ?_); refine goesL_ (some 101) rfl rfl Try.func39 (by kernel_rfl) rfl #[.slice Ao51 x11_2.length co51] rfl (by (try simp only [List.map_toArray, List.map_cons, List.map_nil]); first | done | rfl) ?_; (with_reducible refine (spec_InvM.calls k2 _ _ x11_2 t480 false _ ?side1 ?side2 A43.out).mono ?_); (case side1 => repeat (first | exact (Kd.N_reads' HO_11.out).2.2 | (with_reducible refine Kd.C_alloc ?_ _) | (with_reducible refine Kd.C_drewN ?_ _) | (with_reducible refine Kd.C_drew ?_))); (case side2 => exact (Kd.N_reads' HO_11.out).2.1); rintro e w52 ⟨v481, rfl, ho0, hb⟩; refine ⟨_, rfl, ?_⟩; have n0_ := AM (Kd.N_elder' (by exact HO_11.out) (Kd.N_base ho0) hb); have n1_ := AM (Kd.R_below (by exact HO_12.out) hb); have n2_ := AM (Kd.N_elder' (by exact HO_14.out) (Kd.N_base ho0) hb); have n3_ := AM (Kd.N_lower (Kd.N_mono (ok' := fun k_ => some k_ ≠ (.slice Ao51 x11_2.length co51 : Value).ownBlock ∧ some k_ ≠ (u12 : Value).ownBlock ∧ some k_ ≠ (v461 : Value).ownBlock) ho0 (fun k_ hk_ => ⟨(Kd.fresh' (Kd.N_lt (by exact HO_11.out)) k_ hk_), (Kd.fresh' (Kd.R_lt (by exact HO_12.out)) k_ hk_), (Kd.fresh' (Kd.N_lt (by exact HO_14.out)) k_ hk_)⟩)) (below_size (by repeat (first | exact HB.out | apply bA | apply bN | apply bD)))); have n4_ := AM (below_step (by repeat (first | exact HB.out | apply bA | apply bN | apply bD)) hb); clear HO_11; clear HO_12; clear HO_14; clear HB; have HO_11 := n0_; have HO_12 := n1_; have HO_14 := n2_; have HO482 := n3_; have HB := n4_; clear n0_ n1_ n2_ n3_ n4_; (try clear hb); (try clear ho0)) | ((with_reducible refine gate_dst (N := 106) rfl ?_); (try (refine gate_guard (by rfl) ?_; dsimp only)); refine Kd.R_lit Kd.string _ 9 ?hg (N := 106) ?hd (xs := ([] : List ByteArray)) (inner := []) (ok := fun _ => True) (okp := fun _ => True) ?hr ?hp (fun _ hk => hk) trivial (Below.refl _ _) (Nat.le_refl _) (by simp) ?_; (case hd => rfl); (case hg => rfl); (case hr => first | (go_simp; done) | (go_simp; rfl)); (case hp => exact (Reps.none _ _)); intro v488 w53 ho54 hb hg_ hnew_; clear hg_ hnew_; (first | rw [← Ny487.out] at ho54 | (simp only [Int.reduceToNat] at ho54; rw [← Ny487.out] at ho54)); have n0_ := AM (Kd.N_elder' (by exact HO_11.out) (Kd.R_base ho54) hb); have n1_ := AM (Kd.R_elder' (by exact HO_12.out) (Kd.R_base ho54) hb); have n2_ := AM (Kd.N_elder' (by exact HO_14.out) (Kd.R_base ho54) hb); have n3_ := AM (Kd.N_elder' (by exact HO482.out) (Kd.R_base ho54) hb); have n4_ := AM (Kd.R_lower (Kd.R_new' ho54 (Kd.R_lt (by exact HO_12.out))) (below_size (by repeat (first | exact HB.out | apply bA | apply bN | apply bD)))); have n5_ := AM (below_step (by repeat (first | exact HB.out | apply bA | apply bN | apply bD)) hb); clear HO_11; clear HO_12; clear HO_14; clear HO482; clear HB; have HO_11 := n0_; have HO_12 := n1_; have HO_14 := n2_; have HO482 := n3_; have HO489 := n4_; have HB := n5_; clear n0_ n1_ n2_ n3_ n4_ n5_; clear hb ho54))
    go_ret2
    exact ⟨_, by first | rfl | (simp [errW_none, errW_some] <;> rfl) | (simp [*, errW_none, errW_some] <;> rfl), by exact Kd.R_mono HO489.out (fun _ hk => trivial), by repeat (first | exact HB.out | apply bA | apply bN | apply bD)⟩
def spec_Rebuild.f (k : Nat) (a0 : Int) (l1 : List ByteArray) (l2 : List Bool) : Option (List ByteArray × Bool) := (spec_Decode.f k a0 l1 l2).bind fun bt490 => (if bt490.2 = true then ((spec_Encode.f k a0 bt490.1).bind fun bt494 => (some (bt494.1, bt494.2))) else (some ((([] : List ByteArray)), false)))
theorem spec_Rebuild.mono : ∀ a0 a1 a2 k, LeO (spec_Rebuild.f k a0 a1 a2) (spec_Rebuild.f (k + 1) a0 a1 a2) := by
 intro a0 a1 a2 k
 unfold spec_Rebuild.f
 repeat' first
   | (with_reducible exact LeO.refl _)
   | (with_reducible refine LeO.ite ?_ ?_)
   | (with_reducible refine LeO.bind ?_ (fun _ => ?_))
   | exact spec_Decode.mono _ _ _ _
   | exact spec_Encode.mono _ _ _
   | exact LeO.none _
   | refine LeO.ite ?_ ?_
   | refine LeO.bind ?_ (fun _ => ?_)
set_option maxHeartbeats 8000000 in
set_option maxRecDepth 100000 in
theorem spec_Rebuild.calls (k : Nat) (a0 : Int) (A1 : Option Addr) (c1 : Nat) (l1 : List ByteArray) (A2 : Option Addr) (c2 : Nat) (l2 : List Bool) (r1 : List ByteArray) (r2 : Bool) (w : World) (hr1 : Kd.C Kd.string w A1 l1.length l1) (hc1 : l1.length ≤ c1) (hr2 : Kd.C Kd.bool w A2 l2.length l2) (hc2 : l2.length ≤ c2) (h : spec_Rebuild.f k a0 l1 l2 = some (r1, r2)) :
  Calls Try.prog 25 #[.int .i64 a0, .slice A1 l1.length c1, .slice A2 l2.length c2] w fun e w' => ∃ v0_ : Value, e = .returned (.tuple #[v0_, .bool r2]) ∧ Kd.R Kd.string 9 w' w.heap.size (fun _ => True) v0_ r1 ∧ Below w.heap.size w w' := by
 have HR1 := AM hr1
 have HC1 := AM hc1
 clear hr1 hc1
 have HR2 := AM hr2
 have HC2 := AM hc2
 clear hr2 hc2
 have HB := AM (Below.refl w.heap.size w)
 have H : ((spec_Decode.f k a0 l1 l2).bind fun bt490 => (if bt490.2 = true then ((spec_Encode.f k a0 bt490.1).bind fun bt494 => (some (bt494.1, bt494.2))) else (some ((([] : List ByteArray)), false)))) = some (r1, r2) := h
 clear h
 replace H := bm H
 obtain ⟨⟨t490, t491⟩, A40, H⟩ := H
 replace H : (if t491 = true then ((spec_Encode.f k a0 t490).bind fun bt494 => (some (bt494.1, bt494.2))) else (some ((([] : List ByteArray)), false))) = some (r1, r2) := H
 have A4 := AM A40
 clear A40
 by_cases c5 : t491 = true
 ·subst c5
  have H1 : ((spec_Encode.f k a0 t490).bind fun bt494 => (some (bt494.1, bt494.2))) = some (r1, r2) := by rw [if_pos rfl] at H; exact H
  clear H
  have H := H1
  clear H1
  replace H := bm H
  obtain ⟨⟨t494, t495⟩, A60, H⟩ := H
  replace H : (some (t494, t495)) = some (r1, r2) := H
  have A6 := AM A60
  clear A60
  simp only [Option.some.injEq, Prod.mk.injEq] at H
  obtain ⟨rfl, rfl⟩ := H
  go_enter Try.func25, Try.ntmps25
  go_wp2_with (first | ((with_reducible refine gate_callee (f := 21) rfl ?_); refine goesL_ (some 14) rfl rfl Try.func21 (by kernel_rfl) rfl #[.int .i64 a0, .slice A1 l1.length c1, .slice A2 l2.length c2] rfl (by (try simp only [List.map_toArray, List.map_cons, List.map_nil]); first | done | rfl) ?_; (with_reducible refine (spec_Decode.calls k a0 _ _ l1 _ _ l2 t490 true _ ?side1 ?side2 ?side3 ?side4 A4.out).mono ?_); (case side1 => repeat (first | exact HR1.out | (with_reducible refine Kd.C_alloc ?_ _) | (with_reducible refine Kd.C_drewN ?_ _) | (with_reducible refine Kd.C_drew ?_))); (case side2 => exact HC1.out); (case side3 => repeat (first | exact HR2.out | (with_reducible refine Kd.C_alloc ?_ _) | (with_reducible refine Kd.C_drewN ?_ _) | (with_reducible refine Kd.C_drew ?_))); (case side4 => exact HC2.out); rintro e w7 ⟨v492, rfl, ho0, hb⟩; refine ⟨_, rfl, ?_⟩; have n0_ := AM (Kd.R_lower ho0 (below_size (by repeat (first | exact HB.out | apply bA | apply bN | apply bD)))); have n1_ := AM (below_step (by repeat (first | exact HB.out | apply bA | apply bN | apply bD)) hb); clear HB; have HO493 := n0_; have HB := n1_; clear n0_ n1_; (try clear hb); (try clear ho0); obtain ⟨Ao8, co8, eo8⟩ := Kd.R_slice HO493.out; subst eo8) | ((with_reducible refine gate_callee (f := 11) rfl ?_); refine goesL_ (some 22) rfl rfl Try.func11 (by kernel_rfl) rfl #[.int .i64 a0, .slice Ao8 t490.length co8] rfl (by (try simp only [List.map_toArray, List.map_cons, List.map_nil]); first | done | rfl) ?_; (with_reducible refine (spec_Encode.calls k a0 _ _ t490 t494 t495 _ ?side1 ?side2 A6.out).mono ?_); (case side1 => repeat (first | exact (Kd.R_reads' HO493.out).2.2 | (with_reducible refine Kd.C_alloc ?_ _) | (with_reducible refine Kd.C_drewN ?_ _) | (with_reducible refine Kd.C_drew ?_))); (case side2 => exact (Kd.R_reads' HO493.out).2.1); rintro e w9 ⟨v496, rfl, ho0, hb⟩; refine ⟨_, rfl, ?_⟩; have n0_ := AM (Kd.R_elder' (by exact HO493.out) (Kd.R_base ho0) hb); have n1_ := AM (Kd.R_lower (Kd.R_new' ho0 (Kd.R_lt (by exact HO493.out))) (below_size (by repeat (first | exact HB.out | apply bA | apply bN | apply bD)))); have n2_ := AM (below_step (by repeat (first | exact HB.out | apply bA | apply bN | apply bD)) hb); clear HO493; clear HB; have HO493 := n0_; have HO497 := n1_; have HB := n2_; clear n0_ n1_ n2_; (try clear hb); (try clear hk); (try clear ho0)))
  go_ret2
  exact ⟨_, by first | rfl | (simp [errW_none, errW_some] <;> rfl) | (simp [*, errW_none, errW_some] <;> rfl), by exact Kd.R_mono HO497.out (fun _ hk => trivial), by repeat (first | exact HB.out | apply bA | apply bN | apply bD)⟩
 replace c5 := Bool.eq_false_iff.mpr c5
 subst c5
 have H1 : (some ((([] : List ByteArray)), false)) = some (r1, r2) := by rw [if_neg (show ¬ (false = true) by decide)] at H; exact H
 clear H
 have H := H1
 clear H1
 obtain ⟨y498, hy498⟩ : ∃ y_ : List ByteArray, y_ = (([] : List ByteArray)) := ⟨_, rfl⟩
 replace H : (some (y498, false)) = some (r1, r2) := by first | (rw [hy498]; with_reducible exact H) | (have H2_ := (Option.bind_some _ _).symm.trans H; rw [hy498]; with_reducible exact H2_) | (have H2_ := (Option.bind_some _ _).symm.trans H; with_reducible exact H2_) | with_reducible exact H | (rw [hy498]; exact H) | exact H
 have Ny498 := AM hy498
 clear hy498
 simp only [Option.some.injEq, Prod.mk.injEq] at H
 obtain ⟨rfl, rfl⟩ := H
 go_enter Try.func25, Try.ntmps25
 go_wp2_with (first | ((with_reducible refine gate_callee (f := 21) rfl ?_); refine goesL_ (some 14) rfl rfl Try.func21 (by kernel_rfl) rfl #[.int .i64 a0, .slice A1 l1.length c1, .slice A2 l2.length c2] rfl (by (try simp only [List.map_toArray, List.map_cons, List.map_nil]); first | done | rfl) ?_; (with_reducible refine (spec_Decode.calls k a0 _ _ l1 _ _ l2 t490 false _ ?side1 ?side2 ?side3 ?side4 A4.out).mono ?_); (case side1 => repeat (first | exact HR1.out | (with_reducible refine Kd.C_alloc ?_ _) | (with_reducible refine Kd.C_drewN ?_ _) | (with_reducible refine Kd.C_drew ?_))); (case side2 => exact HC1.out); (case side3 => repeat (first | exact HR2.out | (with_reducible refine Kd.C_alloc ?_ _) | (with_reducible refine Kd.C_drewN ?_ _) | (with_reducible refine Kd.C_drew ?_))); (case side4 => exact HC2.out); rintro e w10 ⟨v492, rfl, ho0, hb⟩; refine ⟨_, rfl, ?_⟩; have n0_ := AM (Kd.R_lower ho0 (below_size (by repeat (first | exact HB.out | apply bA | apply bN | apply bD)))); have n1_ := AM (below_step (by repeat (first | exact HB.out | apply bA | apply bN | apply bD)) hb); clear HB; have HO493 := n0_; have HB := n1_; clear n0_ n1_; (try clear hb); (try clear ho0)) | ((with_reducible refine gate_dst (N := 19) rfl ?_); refine Kd.R_lit Kd.string _ 9 ?hg (N := 19) ?hd (xs := ([] : List ByteArray)) (inner := []) (ok := fun _ => True) (okp := fun _ => True) ?hr ?hp (fun _ hk => hk) trivial (Below.refl _ _) (Nat.le_refl _) (by simp) ?_; (case hd => rfl); (case hg => rfl); (case hr => first | (go_simp; done) | (go_simp; rfl)); (case hp => exact (Reps.none _ _)); intro v499 w11 ho12 hb hg_ hnew_; clear hg_ hnew_; (first | rw [← Ny498.out] at ho12 | (simp only [Int.reduceToNat] at ho12; rw [← Ny498.out] at ho12)); have n0_ := AM (Kd.R_elder' (by exact HO493.out) (Kd.R_base ho12) hb); have n1_ := AM (Kd.R_lower (Kd.R_new' ho12 (Kd.R_lt (by exact HO493.out))) (below_size (by repeat (first | exact HB.out | apply bA | apply bN | apply bD)))); have n2_ := AM (below_step (by repeat (first | exact HB.out | apply bA | apply bN | apply bD)) hb); clear HO493; clear HB; have HO493 := n0_; have HO500 := n1_; have HB := n2_; clear n0_ n1_ n2_; clear hb ho12))
 go_ret2
 exact ⟨_, by first | rfl | (simp [errW_none, errW_some] <;> rfl) | (simp [*, errW_none, errW_some] <;> rfl), by exact Kd.R_mono HO500.out (fun _ hk => trivial), by repeat (first | exact HB.out | apply bA | apply bN | apply bD)⟩
end Go.Proofs.Ytcpcphdhaboekaa.XFnExactRebuild
