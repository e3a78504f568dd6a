/- What the functions of a law compute, and that their calls compute it: written by a program of this session (xprint.py), which turns the kit print at a few places. -/
import Derived.Test.YtnkldnkolcighaaXFnActsx0
import Derived.Test.YtnkldnkolcighaaXFnActsx2
import Derived.Test.YtnkldnkolcighaaXFnActsx4
namespace Go.Proofs.Ytnkldnkolcighaa.XFnActs
open Go.RowKit Go.Proofs.YtnkldnkolcighaaQ.PrintWords Go.Proofs.YtnkldnkolcighaaQ.PrintLast Go.Proofs.YtnkldnkolcighaaQ.PrintMore
attribute [local go_sem] max2_int min2_int max_two min_two max_three min_three max_four min_four str_geq str_gtr   -- for this text's walks alone
set_option linter.unusedVariables false
set_option linter.unusedSimpArgs false

/-! ### spec_DiskOk: function 41 -/
-- impl_DiskOk
theorem l01In_dec (a l h : Int) : spec_l01In.f a l h = some (decide (l ≤ a ∧ a ≤ h)) := by
  unfold spec_l01In.f
  by_cases h1 : l ≤ a
  · rw [if_pos h1]; simp [h1]
  rw [if_neg h1]; simp [h1]
def spec_DiskOk.f (k : Nat) (l0_0 : List S67) : Option Bool := some (diskOkV l0_0)
theorem spec_DiskOk.mono : ∀ a0 k, LeO (spec_DiskOk.f k a0) (spec_DiskOk.f (k + 1) a0) := fun _ _ => LeO.refl _
set_option maxHeartbeats 8000000 in
set_option maxRecDepth 100000 in
theorem spec_DiskOk.calls (k : Nat) (A0_0 : Option Addr) (c0_0 : Nat) (l0_0 : List S67) (r : Bool) (w : World) (hr0_0 : Kd.C k67 w A0_0 l0_0.length l0_0) (hc0_0 : l0_0.length ≤ c0_0) (h : spec_DiskOk.f k l0_0 = some r) :
    Calls Try.prog 41 #[.agg #[.slice A0_0 l0_0.length c0_0]] w fun e w' => e = .returned (.bool r) ∧ Below w.heap.size w w' := by
  have HRV := AM (Option.some.inj h)
  have hu30 := Try.underlying30
  have hu67 := Try.underlying67
  have HR0 := AM hr0_0
  have HC0 := AM hc0_0
  have hmx : l0_0.length ≤ 9223372036854775807 := hr0_0.2.1
  clear hr0_0 hc0_0 h
  have HB := AM (Below.refl w.heap.size w)
  by_cases c0 : (l0_0.length : Int) > 30
  · have c0b0 : decide (30 < (l0_0.length : Int)) = true := decide_eq_true c0
    have c0b1 : decide (30 < l0_0.length) = true := decide_eq_true (by omega)
    have HV0 : Aside0 (r = false) := ⟨by rw [← HRV.out, diskOkV, decide_eq_false (show ¬ (l0_0.length : Int) ≤ 30 by omega), Bool.false_and]⟩
    clear HRV c0
    go_enter Try.func41, Try.ntmps41
    go_wp2_with (first | ((with_reducible refine gd 1 rfl ?_); refine bx (N := 1) (cs := #[.slice A0_0 l0_0.length c0_0]) (t := 30) ?_; intro gb1 hg w1 hbox hb; have BK1 := AM hbox; have GE1 := AM (bs hg HB); replace HB := bq HB hb; clear hb hbox hg; have hcz1_0 := bv BK1 0 (.slice A0_0 l0_0.length c0_0)))
    go_ret
    exact ⟨by rw [HV0.out]; first | done | rfl, hB HB⟩
  have c0b0 : decide (30 < (l0_0.length : Int)) = false := decide_eq_false c0
  have c0b1 : decide (30 < l0_0.length) = false := decide_eq_false (by omega)
  have HV1 : Aside0 (allFrom l0_0 l0_0.length 0 = true → r = true) := ⟨fun e => by rw [← HRV.out, diskOkV, e, Bool.and_true]; exact decide_eq_true (by omega)⟩
  have HV2 : Aside0 (allFrom l0_0 l0_0.length 0 = false → r = false) := ⟨fun e => by rw [← HRV.out, diskOkV, e, Bool.and_false]⟩
  clear HRV c0
  go_enter Try.func41, Try.ntmps41
  go_wp2_with (first | ((with_reducible refine gd 1 rfl ?_); refine bx (N := 1) (cs := #[.slice A0_0 l0_0.length c0_0]) (t := 30) ?_; intro gb1 hg w1 hbox hb; have BK1 := AM hbox; have GE1 := AM (bs hg HB); replace HB := bq HB hb; clear hb hbox hg; have hcz1_0 := bv BK1 0 (.slice A0_0 l0_0.length c0_0)))
  go_loopg [3] l0_0.length (fun kq v3 w' => ∃ i : Nat, v3 = .int .i64 (i : Int) ∧ Aside0 (i ≤ l0_0.length) ∧ Aside0 (kq = l0_0.length - i) ∧ Aside0 (allFrom l0_0 (l0_0.length - i) i = allFrom l0_0 l0_0.length 0) ∧ Aside0 (w'.heap[gb1]? = some (.cells #[.slice A0_0 l0_0.length c0_0] 30 (0, 0))) ∧ Aside0 (Below w.heap.size w w'))
  case atStart => exact ⟨0, by first | rfl | simp, ⟨Nat.zero_le _⟩, ⟨rfl⟩, ⟨rfl⟩, BK1, ⟨hB HB⟩⟩
  clear HB hcz1_0 BK1
  obtain ⟨i, rfl, HI, HKQ, HA, BK1, HB⟩ := hrel
  have hcz1_0 := bv BK1 0 (.slice A0_0 l0_0.length c0_0)
  by_cases ci : i < l0_0.length
  · have cib : decide ((i : Int) < (l0_0.length : Int)) = true := decide_eq_true (by omega)
    have cib2 : decide (i < l0_0.length) = true := decide_eq_true ci
    have p1 : 0 ≤ (i : Int) := by omega
    have q1 : (i : Int) < (l0_0.length : Int) := by omega
    obtain ⟨x, hx⟩ : ∃ x, x = rd_T67 l0_0 (i : Int) := ⟨_, rfl⟩
    have HP : Aside0 (allFrom l0_0 (l0_0.length - i) i = (placeOk l0_0 i && allFrom l0_0 (l0_0.length - (i + 1)) (i + 1))) := ⟨by rw [show l0_0.length - i = (l0_0.length - (i + 1)) + 1 by omega, allFrom]⟩
    obtain ⟨ad1, e1, hx0, hx1, hx2⟩ := at_T67 HR0.out (i : Int) p1 q1
    cases e1
    rw [← hx] at hx0 hx1 hx2
    rw [Int.toNat_natCast] at hx0 hx1 hx2
    have HX0 := AM hx0
    have HX1 := AM hx1
    have HX2 := AM hx2
    clear hx0 hx1 hx2
    have hxx0 := cl HB HX0.out
    have hxx1 := cl HB HX1.out
    have hxx2 := cl HB HX2.out
    have HXE := AM hx
    have WI := AM (wsuccJ (i := i) (by omega))
    have HI2 := AM ci
    have hib : (i : Int) ≤ 9223372036854775806 := by omega
    replace p1 := eq_true p1
    replace q1 := eq_true q1
    clear hx
    go_upto_region 7 with (first | ((with_reducible refine gd 4 rfl ?_); refine bx (N := 4) (cs := #[.string (⟨#[]⟩ : ByteArray), .string (⟨#[]⟩ : ByteArray), .int .i64 0]) (t := 67) ?_; intro gb4 hg w4 hbox hb; have n0_ := bq HB hb; have n1_ := AM hbox; have n2_ := AM (bs hg HB); replace BK1 := bw BK1 hb; clear hcz1_0 hxx0 hxx1 hxx2; clear HB; have HB := n0_; have BK4 := n1_; have GE4 := n2_; clear hb hbox hg n0_ n1_ n2_; have hcz1_0 := bv BK1 0 (.slice (some ad1) l0_0.length c0_0); have hxx0 := cl HB HX0.out; have hxx1 := cl HB HX1.out; have hxx2 := cl HB HX2.out) | ((with_reducible refine gate_ (.store 67 (.tmp 4) (.tmp 20)) rfl ?_); refine blk_store_event rfl rfl 67 (.tmp 4) (.tmp 20) rfl gb4 0 (by rfl) (.agg #[.string x.f0, .string x.f1, .int .i64 x.f2]) (by rfl) #[.string (⟨#[]⟩ : ByteArray), .string (⟨#[]⟩ : ByteArray), .int .i64 0] 67 BK4.out [.string x.f0, .string x.f1, .int .i64 x.f2] rfl (by kernel_rfl) (show 0 + 3 ≤ 3 by decide) (by intro q hq; simp at hq; rcases hq with rfl | rfl | rfl <;> rfl) #[.string x.f0, .string x.f1, .int .i64 x.f2] rfl ?_; intro w5 hbox hg; clear hcz1_0 hxx0 hxx1 hxx2; have n0_ := AM (HB.out.grown hg (below_size (hB HB)) (fun k hk => by injection hk with hk; have := GE4.out; omega)); have n1_ := AM (blk_grown BK1.out hg (fun e => blk_ne BK1.out BK4.out (by decide) (Option.some.inj e))); clear HB BK1 BK4; have HB := n0_; have BK1 := n1_; have BK4 := AM hbox; clear hg hbox n0_ n1_; have hcz1_0 := bv BK1 0 (.slice (some ad1) l0_0.length c0_0); have hcz4_0 := bv BK4 0 (.string x.f0); have hcz4_1 := bv BK4 1 (.string x.f1); have hcz4_2 := bv BK4 2 (.int .i64 x.f2)))
    simp only [Act.put, List.setIfInBounds_toArray, List.set_cons_succ, List.set_cons_zero]
    have bad : placeOk l0_0 i = false → r = false := fun e => by have h_ := HP.out; rw [e, Bool.false_and] at h_; exact HV2.out (HA.out.symm.trans h_)
    have good : placeOk l0_0 i = true → allFrom l0_0 (l0_0.length - (i + 1)) (i + 1) = allFrom l0_0 l0_0.length 0 := fun e => by have h_ := HP.out; rw [e, Bool.true_and] at h_; exact h_.symm.trans HA.out
    have HBD := AM bad
    have HGD := AM good
    clear bad good
    have hpl : placeOk l0_0 i = (decide (1 ≤ (x.f0.size : Int) ∧ (x.f0.size : Int) ≤ 8) && decide (¬ (x.f1.size : Int) > 20000) && decide (0 ≤ x.f2 ∧ x.f2 ≤ (x.f1.size : Int)) && (decide (i = 0) || Op.bytesLess ((rd_T67 l0_0 ((i - 1 : Nat) : Int)).f0.toList) (x.f0.toList))) := by unfold placeOk fileOk; rw [← HXE.out]
    by_cases c1 : 1 ≤ (x.f0.size : Int) ∧ (x.f0.size : Int) ≤ 8
    case neg =>
      have HW1 := AM (show spec_l03Name.f x.f0 = some false from by unfold spec_l03Name.f; rw [l01In_dec, decide_eq_false c1]; rfl)
      have HV0 := AM (HBD.out (by rw [hpl, decide_eq_false c1]; simp only [Bool.false_and]))
      clear hpl c1
      go_quiet (first | (go_at_call 45; exact quiet_drawn (spec_l03Name.calls _ _ _ HW1.out)) | (go_at_call 55; exact quiet_drawn (spec_l01In.calls _ _ _ _ _ HW2.out)))
      go_wp2
      go_ret
      exact ⟨by rw [HV0.out]; first | done | rfl, hB HB⟩
    have HW1 := AM (show spec_l03Name.f x.f0 = some true from by unfold spec_l03Name.f; rw [l01In_dec, decide_eq_true c1]; rfl)
    by_cases c2 : (x.f1.size : Int) > 20000
    · have HV0 := AM (HBD.out (by rw [hpl, decide_eq_false (not_not_intro c2)]; simp only [Bool.false_and, Bool.and_false]))
      have c2b0 : decide (20000 < (x.f1.size : Int)) = true := decide_eq_true c2
      have c2b1 : decide (20000 < x.f1.size) = true := decide_eq_true (by omega)
      clear hpl c1 c2
      go_quiet (first | (go_at_call 45; exact quiet_drawn (spec_l03Name.calls _ _ _ HW1.out)) | (go_at_call 55; exact quiet_drawn (spec_l01In.calls _ _ _ _ _ HW2.out)))
      go_wp2
      go_ret
      exact ⟨by rw [HV0.out]; first | done | rfl, hB HB⟩
    have c2b0 : decide (20000 < (x.f1.size : Int)) = false := decide_eq_false c2
    have c2b1 : decide (20000 < x.f1.size) = false := decide_eq_false (by omega)
    by_cases c3 : 0 ≤ x.f2 ∧ x.f2 ≤ (x.f1.size : Int)
    case neg =>
      have HW2 := AM (show spec_l01In.f x.f2 0 (x.f1.size : Int) = some false from by rw [l01In_dec, decide_eq_false c3])
      have HV0 := AM (HBD.out (by rw [hpl, decide_eq_false c3]; simp only [Bool.false_and, Bool.and_false]))
      clear hpl c1 c2 c3
      go_quiet (first | (go_at_call 45; exact quiet_drawn (spec_l03Name.calls _ _ _ HW1.out)) | (go_at_call 55; exact quiet_drawn (spec_l01In.calls _ _ _ _ _ HW2.out)))
      go_wp2
      go_ret
      exact ⟨by rw [HV0.out]; first | done | rfl, hB HB⟩
    have HW2 := AM (show spec_l01In.f x.f2 0 (x.f1.size : Int) = some true from by rw [l01In_dec, decide_eq_true c3])
    by_cases c4 : i = 0
    · have HA1 := AM (HGD.out (by rw [hpl, decide_eq_true c1, decide_eq_true c2, decide_eq_true c3, decide_eq_true c4]; rfl))
      have c4b0 : decide (0 < (i : Int)) = false := decide_eq_false (by omega)
      have c4b1 : decide (0 < i) = false := decide_eq_false (by omega)
      clear hpl c1 c2 c3 c4
      go_quiet (first | (go_at_call 45; exact quiet_drawn (spec_l03Name.calls _ _ _ HW1.out)) | (go_at_call 55; exact quiet_drawn (spec_l01In.calls _ _ _ _ _ HW2.out)))
      go_wp2
      go_roundg (l0_0.length - (i + 1))
      case measure => have := HKQ.out; omega
      case rel => exact ⟨i + 1, by first | rfl | (rw [WI.out]), ⟨by have := HI2.out; omega⟩, ⟨rfl⟩, HA1, ⟨bk BK1⟩, ⟨hB HB⟩⟩
    have c4b0 : decide (0 < (i : Int)) = true := decide_eq_true (by omega)
    have c4b1 : decide (0 < i) = true := decide_eq_true (by omega)
    obtain ⟨m, hm⟩ : ∃ m : Nat, m = i - 1 := ⟨_, rfl⟩
    obtain ⟨y, hy⟩ : ∃ y, y = rd_T67 l0_0 (m : Int) := ⟨_, rfl⟩
    rw [← hm, ← hy, decide_eq_true c1, decide_eq_true c2, decide_eq_true c3, decide_eq_false c4, Bool.true_and, Bool.true_and, Bool.true_and, Bool.false_or] at hpl
    have hj1 : (i : Int) - 1 = (m : Int) := by omega
    have hj2 : IntKind.i64.wrap ((i : Int) - 1) = (m : Int) := by rw [IntKind.wrap_i64]; omega
    have p2 := eq_true (show 0 ≤ (m : Int) by omega)
    have q2 := eq_true (show (m : Int) < (l0_0.length : Int) by omega)
    have p3 := eq_true (show 1 ≤ (i : Int) by omega)
    obtain ⟨ad2, e2, hy0, hy1, hy2⟩ := at_T67 HR0.out (m : Int) (by omega) (by omega)
    cases e2
    rw [← hy] at hy0
    rw [Int.toNat_natCast] at hy0
    have hyy0 := cl HB hy0
    by_cases c5 : Op.bytesLess y.f0.toList x.f0.toList = true
    · have HA1 := AM (HGD.out (hpl.trans c5))
      clear hpl c1 c2 c3 c4 hm hy hy0 hy1 hy2
      go_quiet (first | (go_at_call 45; exact quiet_drawn (spec_l03Name.calls _ _ _ HW1.out)) | (go_at_call 55; exact quiet_drawn (spec_l01In.calls _ _ _ _ _ HW2.out)))
      go_wp2
      go_roundg (l0_0.length - (i + 1))
      case measure => have := HKQ.out; omega
      case rel => exact ⟨i + 1, by first | rfl | (rw [WI.out]), ⟨by have := HI2.out; omega⟩, ⟨rfl⟩, HA1, ⟨bk BK1⟩, ⟨hB HB⟩⟩
    have c5b0 : Op.bytesLess y.f0.toList x.f0.toList = false := by simpa using c5
    have HV0 := AM (HBD.out (hpl.trans c5b0))
    clear hpl c1 c2 c3 c4 hm hy hy0 hy1 hy2 c5
    go_quiet (first | (go_at_call 45; exact quiet_drawn (spec_l03Name.calls _ _ _ HW1.out)) | (go_at_call 55; exact quiet_drawn (spec_l01In.calls _ _ _ _ _ HW2.out)))
    go_wp2
    go_ret
    exact ⟨by rw [HV0.out]; first | done | rfl, hB HB⟩
  have cib : decide ((i : Int) < (l0_0.length : Int)) = false := decide_eq_false (by omega)
  have cib2 : decide (i < l0_0.length) = false := decide_eq_false ci
  have HV0 := AM (HV1.out (by have h_ := HA.out; have h2_ := HI.out; rw [show l0_0.length - i = 0 by omega] at h_; exact h_.symm))
  go_wp2
  go_ret
  exact ⟨by rw [HV0.out]; first | done | rfl, hB HB⟩


/-! ### spec_l03Put: function 46 -/
mutual
def spec_l03Put.l0 : Nat → Int → List (S67) → ByteArray → ByteArray → Int → List (S67) → Option ((List (S67)))
 | 0, _, _, _, _, _, _ => none
 | k + 1, x6, x108000, x109000, x109001, x109002, x111000 => if x6 < (x108000.length : Int) then (if 0 ≤ x6 then (if (Op.bytesLess (((rd_T67 x108000 x6).f0).toList) x109000.toList) = true then (if x111000.length < 3518437208883 then (spec_l03Put.l0 k (wrap64 (x6 + 1)) x108000 x109000 x109001 x109002 (x111000 ++ [(⟨(rd_T67 x108000 x6).f0, (rd_T67 x108000 x6).f1, (rd_T67 x108000 x6).f2⟩ : S67)])) else (none)) else (spec_l03Put.l0 k (wrap64 (x6 + 1)) x108000 x109000 x109001 x109002 x111000)) else (none)) else (if x111000.length < 3518437208883 then (spec_l03Put.l1 k 0 x108000 x109000 x109001 x109002 (x111000 ++ [(⟨x109000, x109001, x109002⟩ : S67)])) else (none))
def spec_l03Put.l1 : Nat → Int → List (S67) → ByteArray → ByteArray → Int → List (S67) → Option ((List (S67)))
 | 0, _, _, _, _, _, _ => none
 | k + 1, x7, x108000, x109000, x109001, x109002, x111000 => if x7 < (x108000.length : Int) then (if 0 ≤ x7 then (if (Op.bytesLess x109000.toList (((rd_T67 x108000 x7).f0).toList)) = true then (if x111000.length < 3518437208883 then (spec_l03Put.l1 k (wrap64 (x7 + 1)) x108000 x109000 x109001 x109002 (x111000 ++ [(⟨(rd_T67 x108000 x7).f0, (rd_T67 x108000 x7).f1, (rd_T67 x108000 x7).f2⟩ : S67)])) else (none)) else (spec_l03Put.l1 k (wrap64 (x7 + 1)) x108000 x109000 x109001 x109002 x111000)) else (none)) else (some x111000)
end
def spec_l03Put.f (k : Nat) (l0_0 : List (S67)) (a1_0 : ByteArray) (a1_1 : ByteArray) (a1_2 : Int) : Option ((List (S67))) := spec_l03Put.l0 k 0 l0_0 a1_0 a1_1 a1_2 ([] : List (S67))
theorem spec_l03Put.mono_l : ∀ k, (∀ y0 y1 y2 y3 y4 y5, LeO (spec_l03Put.l0 k y0 y1 y2 y3 y4 y5) (spec_l03Put.l0 (k + 1) y0 y1 y2 y3 y4 y5)) ∧ (∀ y0 y1 y2 y3 y4 y5, LeO (spec_l03Put.l1 k y0 y1 y2 y3 y4 y5) (spec_l03Put.l1 (k + 1) y0 y1 y2 y3 y4 y5))
 | 0 => ⟨fun _ _ _ _ _ _ r h => by simp [spec_l03Put.l0] at h, fun _ _ _ _ _ _ r h => by simp [spec_l03Put.l1] at h⟩
 | k + 1 => by
  obtain ⟨ih0, ih1⟩ := spec_l03Put.mono_l k
  refine ⟨?_, ?_⟩
  ·intro y0 y1 y2 y3 y4 y5
   unfold spec_l03Put.l0
   repeat' first
   | (with_reducible exact LeO.refl _)
   | (with_reducible refine LeO.ite ?_ ?_)
   | (with_reducible refine LeO.bind ?_ (fun _ => ?_))
   | exact ih0 _ _ _ _ _ _
   | exact ih1 _ _ _ _ _ _
   | exact LeO.none _
   | refine LeO.ite ?_ ?_
   | refine LeO.bind ?_ (fun _ => ?_)
  intro y0 y1 y2 y3 y4 y5
  unfold spec_l03Put.l1
  repeat' first
  | (with_reducible exact LeO.refl _)
  | (with_reducible refine LeO.ite ?_ ?_)
  | (with_reducible refine LeO.bind ?_ (fun _ => ?_))
  | exact ih0 _ _ _ _ _ _
  | exact ih1 _ _ _ _ _ _
  | exact LeO.none _
  | refine LeO.ite ?_ ?_
  | refine LeO.bind ?_ (fun _ => ?_)
theorem spec_l03Put.mono : ∀ a0 a1 a2 a3 k, LeO (spec_l03Put.f k a0 a1 a2 a3) (spec_l03Put.f (k + 1) a0 a1 a2 a3) := by
 intro a0 a1 a2 a3 k
 obtain ⟨ih0, ih1⟩ := spec_l03Put.mono_l k
 unfold spec_l03Put.f
 repeat' first
   | (with_reducible exact LeO.refl _)
   | (with_reducible refine LeO.ite ?_ ?_)
   | (with_reducible refine LeO.bind ?_ (fun _ => ?_))
   | exact ih0 _ _ _ _ _ _
   | exact ih1 _ _ _ _ _ _
   | exact LeO.none _
   | refine LeO.ite ?_ ?_
   | refine LeO.bind ?_ (fun _ => ?_)
def spec_l03Put.T5 : Bool × List (List Nat × List Nat) := (true, [([], []), ([0], [0]), ([], []), ([1, 2], [1, 2]), ([3], [3]), ([4], [4]), ([], []), ([6], [6]), ([5, 7], [5, 7])])
def spec_l03Put.B5 : List Nat := [0, 1, 0, 7, 15, 31, 0, 64, 255]
theorem spec_l03Put.tab5 : rtab .any (opsOf Try.f46 5) = spec_l03Put.T5 := by kernel_rfl
theorem spec_l03Put.bits5 : waitsOk spec_l03Put.T5.2 spec_l03Put.B5 = true := by kernel_rfl
def spec_l03Put.T6 : Bool × List (List Nat × List Nat) := (true, [([], []), ([0], [0]), ([], []), ([2], [2]), ([], []), ([3, 4], [3, 4]), ([5], [5]), ([6], [6]), ([1, 7], [1, 7]), ([0, 1, 2, 3, 4, 5, 6, 7, 8], []), ([9, 8, 8, 0, 1, 2, 3, 4, 5, 6, 7, 8], [8, 9])])
def spec_l03Put.B6 : List Nat := [0, 1, 0, 4, 0, 28, 60, 124, 255, 511, 1023]
theorem spec_l03Put.tab6 : rtab .any (opsOf Try.f46 6) = spec_l03Put.T6 := by kernel_rfl
theorem spec_l03Put.bits6 : waitsOk spec_l03Put.T6.2 spec_l03Put.B6 = true := by kernel_rfl
def spec_l03Put.T11 : Bool × List (List Nat × List Nat) := (true, [([], []), ([0], [0]), ([], []), ([1, 2], [1, 2]), ([3], [3]), ([4], [4]), ([], []), ([6], [6]), ([5, 7], [5, 7])])
def spec_l03Put.B11 : List Nat := [0, 1, 0, 7, 15, 31, 0, 64, 255]
theorem spec_l03Put.tab11 : rtab .any (opsOf Try.f46 11) = spec_l03Put.T11 := by kernel_rfl
theorem spec_l03Put.bits11 : waitsOk spec_l03Put.T11.2 spec_l03Put.B11 = true := by kernel_rfl
def spec_l03Put.T12 : Bool × List (List Nat × List Nat) := (true, [([], []), ([0], [0]), ([], []), ([2], [2]), ([], []), ([3, 4], [3, 4]), ([5], [5]), ([6], [6]), ([1, 7], [1, 7]), ([0, 1, 2, 3, 4, 5, 6, 7, 8], []), ([9, 8, 8, 0, 1, 2, 3, 4, 5, 6, 7, 8], [8, 9])])
def spec_l03Put.B12 : List Nat := [0, 1, 0, 4, 0, 28, 60, 124, 255, 511, 1023]
theorem spec_l03Put.tab12 : rtab .any (opsOf Try.f46 12) = spec_l03Put.T12 := by kernel_rfl
theorem spec_l03Put.bits12 : waitsOk spec_l03Put.T12.2 spec_l03Put.B12 = true := by kernel_rfl
set_option maxHeartbeats 8000000 in
set_option maxRecDepth 100000 in
theorem spec_l03Put.calls (k : Nat) (A0_0 : Option Addr) (c0_0 : Nat) (l0_0 : List (S67)) (a1_0 : ByteArray) (a1_1 : ByteArray) (a1_2 : Int) (r : List (S67)) (w : World) (hr0_0 : Kd.C k67 w A0_0 l0_0.length l0_0) (hc0_0 : l0_0.length ≤ c0_0) (h : spec_l03Put.f k l0_0 a1_0 a1_1 a1_2 = some r) :
  Calls Try.prog 46 #[.agg #[.slice A0_0 l0_0.length c0_0], .agg #[.string a1_0, .string a1_1, .int .i64 a1_2]] w fun e w' => ∃ v0_ : Value, e = .returned (.agg #[v0_]) ∧ Kd.R k67 67 w' w.heap.size (fun _ => True) v0_ r ∧ Below w.heap.size w w' := by
 have hu30 := Try.underlying30
 have hu67 := Try.underlying67
 have HR0_0 := AM hr0_0
 have HC0_0 := AM hc0_0
 clear hr0_0 hc0_0
 have HB := AM (Below.refl w.heap.size w)
 have H : (spec_l03Put.l0 k 0 l0_0 a1_0 a1_1 a1_2 ([] : List (S67))) = some r := h
 clear h
 have H' := AM H
 clear H
 go_enter Try.func46, Try.ntmps46
 go_wp2_with (first | ((with_reducible refine gd 2 rfl ?_); refine bx (N := 2) (cs := #[.slice A0_0 l0_0.length c0_0]) (t := 30) ?_; intro gb107 hg w3 hbox hb; have BK107 := AM (hbox); have GW107 := AM (bs hg HB); have GE107 := AM (bs hg HB); replace HB := bq HB hb; clear hb hbox hg) | ((with_reducible refine gd 3 rfl ?_); refine bx (N := 3) (cs := #[.string a1_0, .string a1_1, .int .i64 a1_2]) (t := 67) ?_; intro gb108 hg w4 hbox hb; have BK108 := AM (hbox); have GW108 := AM (bt hg hS); have GE108 := AM (bt hg hS); replace HB := AM (below_step (hS) hb); have NB107_108 := AM (nl hg (bk BK107)); have NB108_107 := AM (ng hg (bk BK107)); replace BK107 := bw BK107 hb; clear hb hbox hg) | ((with_reducible refine gd 4 rfl ?_); refine bx (N := 4) (cs := #[.slice none 0 0]) (t := 30) ?_; intro gb109 hg w5 hbox hb; have BK109 := AM (hbox); have GW109 := AM (bt hg hS); have GE109 := AM (bt hg hS); replace HB := AM (below_step (hS) hb); have NB107_109 := AM (nl hg (bk BK107)); have NB109_107 := AM (ng hg (bk BK107)); replace BK107 := bw BK107 hb; have NB108_109 := AM (nl hg (bk BK108)); have NB109_108 := AM (ng hg (bk BK108)); replace BK108 := bw BK108 hb; clear hb hbox hg) | ((with_reducible refine gd 5 rfl ?_); refine bx (N := 5) (cs := #[.slice none 0 0]) (t := 30) ?_; intro gb110 hg w6 hbox hb; have BK110 := AM (hbox); have GW110 := AM (bt hg hS); have GE110 := AM (bt hg hS); replace HB := AM (below_step (hS) hb); have NB107_110 := AM (nl hg (bk BK107)); have NB110_107 := AM (ng hg (bk BK107)); replace BK107 := bw BK107 hb; have NB108_110 := AM (nl hg (bk BK108)); have NB110_108 := AM (ng hg (bk BK108)); replace BK108 := bw BK108 hb; have NB109_110 := AM (nl hg (bk BK109)); have NB110_109 := AM (ng hg (bk BK109)); replace BK109 := bw BK109 hb; clear hb hbox hg; have hnb7 := NB110_107.out; have hnc7 := NB107_110.out; have hnb8 := NB110_108.out; have hnc8 := NB108_110.out; have hnb9 := NB110_109.out; have hnc9 := NB109_110.out; have hcz10_0 := bv BK110 0 (.slice none 0 0); have hfz10_0 := bz BK110 0))
 go_loopg [6] k (fun kq v6 w' => ∃ (x6_1 : Int) (x111000_1 : List (S67)) (u111000 : Value), v6 = .int .i64 x6_1 ∧ Aside0 (spec_l03Put.l0 kq x6_1 l0_0 a1_0 a1_1 a1_2 x111000_1 = some r) ∧ Aside0 (kq ≤ k) ∧ Aside0 (Kd.R k67 67 w' w.heap.size (fun k_ => k_ ≠ gb108) u111000 x111000_1) ∧ Aside0 (w'.heap[gb107]? = some (.cells #[(.slice A0_0 l0_0.length c0_0)] 30 (0, 0))) ∧ Aside0 (w'.heap[gb108]? = some (.cells #[.string a1_0, .string a1_1, .int .i64 a1_2] 67 (0, 0))) ∧ Aside0 (w'.heap[gb109]? = some (.cells #[(.slice none 0 0)] 30 (0, 0))) ∧ Aside0 (w'.heap[gb110]? = some (.cells #[u111000] 30 (0, 0))) ∧ Aside0 (Below w.heap.size w w'))
 case atStart => exact ⟨(0), (([] : List (S67))), (.slice none 0 0), sf, H', ⟨Nat.le_refl _⟩, ⟨by first | exact Kd.R_nil _ _ _ _ _ | exact Kd.N_nil _ _ _ _ _ | exact Kd.V_nil _ _ _ _ _ | exact Kd.Q_nil _ _ _ _ _ | exact Kd.S_nil _ _ _ _ _⟩, ⟨be⟩, ⟨be⟩, ⟨be⟩, ⟨bp #[.slice none 0 0] 0⟩, ⟨hS⟩⟩
 clear H'
 obtain ⟨x6_1, x111000_1, u111000, rfl, HA, HK1, HO_111000, BK107, BK108, BK109, BK110, HB⟩ := hrel
 cases gk with
 | zero => exact absurd HA.out (by simp [spec_l03Put.l0])
 | succ k1 =>
  have H := HA.out
  clear HA
  simp only [spec_l03Put.l0] at H
  by_cases c11 : x6_1 < (l0_0.length : Int)
  ·rw [if_pos c11] at H
   have c11b0 : decide (x6_1 < (l0_0.length : Int)) = true := decide_eq_true c11
   clear c11
   by_cases c12 : 0 ≤ x6_1
   ·rw [if_pos c12] at H
    have c12b0 : decide (0 ≤ x6_1) = true := decide_eq_true c12
    clear c12
    by_cases c13 : (Op.bytesLess (((rd_T67 l0_0 x6_1).f0).toList) a1_0.toList) = true
    ·rw [if_pos c13] at H
     have c13b0 : (Op.bytesLess (((rd_T67 l0_0 x6_1).f0).toList) a1_0.toList) = true := c13
     clear c13
     by_cases c14 : x111000_1.length < 3518437208883
     ·rw [if_pos c14] at H
      have LMc14 := AM c14
      clear c14
      obtain ⟨y113, hy113⟩ : ∃ y_ : List (S67), y_ = (x111000_1 ++ [(⟨(rd_T67 l0_0 x6_1).f0, (rd_T67 l0_0 x6_1).f1, (rd_T67 l0_0 x6_1).f2⟩ : S67)]) := ⟨_, rfl⟩
      replace H : (spec_l03Put.l0 k1 (wrap64 (x6_1 + 1)) l0_0 a1_0 a1_1 a1_2 y113) = some r := by first | (rw [hy113]; with_reducible exact H) | (have H2_ := (Option.bind_some _ _).symm.trans H; rw [hy113]; with_reducible exact H2_) | (have H2_ := (Option.bind_some _ _).symm.trans H; with_reducible exact H2_) | with_reducible exact H | (rw [hy113]; exact H) | exact H
      have Ny113 := AM hy113
      clear hy113
      have H' := AM H
      clear H
      have hnb15 := NB107_108.out
      have hnc15 := NB108_107.out
      have hnb16 := NB107_109.out
      have hnc16 := NB109_107.out
      have hnb17 := NB107_110.out
      have hnc17 := NB110_107.out
      have hcz18_0 := bv BK107 0 (.slice A0_0 l0_0.length c0_0)
      have hfz18_0 := bz BK107 0
      try go_wp2
      replace HO_111000 := AM (Kd.R_drew HO_111000.out)
      replace BK107 := AM (blk_drew BK107.out)
      replace BK108 := AM (blk_drew BK108.out)
      replace BK109 := AM (blk_drew BK109.out)
      replace BK110 := AM (blk_drew BK110.out)
      replace HB := AM (below_drew1 HB.out)
      have p111 : 0 ≤ (x6_1 : Int) := od
      have q111 : x6_1 < (l0_0.length : Int) := od
      obtain ⟨ad111, e111, hx111_0, hx111_1, hx111_2⟩ := at_T67 HR0_0.out x6_1 p111 q111
      have hw111_2 := hx111_2
      have hw111_1 := hx111_1
      have hw111_0 := hx111_0
      cases e111
      replace hx111_0 := cl HB hx111_0
      replace hx111_1 := cl HB hx111_1
      replace hx111_2 := cl HB hx111_2
      replace p111 := eq_true p111
      replace q111 := eq_true q111
      refine sr 9 (fun w' => w'.cell? ⟨gb107, 0, none⟩ = some (.slice (some ad111) l0_0.length c0_0) ∧ w'.cell? ⟨gb108, 0, none⟩ = some (.string a1_0) ∧ w'.cell? ⟨gb108, 1, none⟩ = some (.string a1_1) ∧ w'.cell? ⟨gb108, 2, none⟩ = some (.int .i64 a1_2) ∧ w'.cell? (ad111.add ((x6_1).toNat * 3)) = some (.string ((rd_T67 l0_0 x6_1).f0)) ∧ w'.cell? ⟨(ad111.add ((x6_1).toNat * 3)).block, (ad111.add ((x6_1).toNat * 3)).off + 1, none⟩ = some (.string ((rd_T67 l0_0 x6_1).f1)) ∧ w'.cell? ⟨(ad111.add ((x6_1).toNat * 3)).block, (ad111.add ((x6_1).toNat * 3)).off + 2, none⟩ = some (.int .i64 ((rd_T67 l0_0 x6_1).f2))) [] ⟨bc BK107 0, bc BK108 0, bc BK108 1, bc BK108 2, (cl HB hw111_0), (cl HB hw111_1), (cl HB hw111_2)⟩ (fun hHeld => ?_); refine with_tabW spec_l03Put.tab5 spec_l03Put.bits5 (fun HT_ HW_ => ?_)
      generalize wr.drew = w19 at HO_111000 BK107 BK108 BK109 BK110 HB hx111_0 hx111_1 hx111_2 hHeld ⊢
      refine pt 0 16 ?_; refine pt 2 18 ?_; refine pt 6 22 ?_; refine tt 1 17 ?_; refine pt 3 19 ?_; refine pt 4 20 ?_; refine tt 5 21 ?_; refine tt 7 23 ?_; refine pt 8 24 ?_
      refine dn ?_
      try go_wp2
      replace HO_111000 := AM (Kd.R_drew HO_111000.out)
      replace BK107 := AM (blk_drew BK107.out)
      replace BK108 := AM (blk_drew BK108.out)
      replace BK109 := AM (blk_drew BK109.out)
      replace BK110 := AM (blk_drew BK110.out)
      replace HB := AM (below_drew1 HB.out)
      have p112 : 0 ≤ (x6_1 : Int) := od
      have q112 : x6_1 < (l0_0.length : Int) := od
      obtain ⟨ad112, e112, hx112_0, hx112_1, hx112_2⟩ := at_T67 HR0_0.out x6_1 p112 q112
      have hw112_2 := hx112_2
      have hw112_1 := hx112_1
      have hw112_0 := hx112_0
      obtain rfl : ad111 = ad112 := (by injection e112)
      replace hx112_0 := cl HB hx112_0
      replace hx112_1 := cl HB hx112_1
      replace hx112_2 := cl HB hx112_2
      replace p112 := eq_true p112
      replace q112 := eq_true q112
      refine sr 11 (fun w' => w'.cell? ⟨gb110, 0, none⟩ = some (u111000) ∧ w'.cell? ⟨gb107, 0, none⟩ = some (.slice (some ad111) l0_0.length c0_0) ∧ w'.cell? (ad111.add ((x6_1).toNat * 3)) = some (.string ((rd_T67 l0_0 x6_1).f0)) ∧ w'.cell? ⟨(ad111.add ((x6_1).toNat * 3)).block, (ad111.add ((x6_1).toNat * 3)).off + 1, none⟩ = some (.string ((rd_T67 l0_0 x6_1).f1)) ∧ w'.cell? ⟨(ad111.add ((x6_1).toNat * 3)).block, (ad111.add ((x6_1).toNat * 3)).off + 2, none⟩ = some (.int .i64 ((rd_T67 l0_0 x6_1).f2))) [10] ⟨bc BK110 0, bc BK107 0, (cl HB hw112_0), (cl HB hw112_1), (cl HB hw112_2)⟩ (fun hHeld => ?_); refine with_tabW spec_l03Put.tab6 spec_l03Put.bits6 (fun HT_ HW_ => ?_)
      generalize w19.drew = w20 at HO_111000 BK107 BK108 BK109 BK110 HB hx112_0 hx112_1 hx112_2 hHeld ⊢
      refine pt 0 25 ?_; refine pt 2 27 ?_; refine pt 4 29 ?_; refine tt 1 26 ?_; refine tt 3 28 ?_; refine pt 5 30 ?_; refine tt 6 31 ?_
      refine ot 7 (some 32) fun K hK => ?_
      refine vl ?_
      refine hK.out _ _ ⟨(blk_cell (blk_alloc BK110.out _) 0).trans rfl, (blk_cell (blk_alloc BK107.out _) 0).trans rfl, (World.cell?_alloc_lt _ _ _ (World.block_lt_of_cell? _ _ ((cl HB hw112_0)))).trans ((cl HB hw112_0)), (World.cell?_alloc_lt _ _ _ (World.block_lt_of_cell? _ _ ((cl HB hw112_1)))).trans ((cl HB hw112_1)), (World.cell?_alloc_lt _ _ _ (World.block_lt_of_cell? _ _ ((cl HB hw112_2)))).trans ((cl HB hw112_2))⟩ (fun hHeld => ?_)
      clear hK K
      refine nr ?_
      refine ot 8 (some 33) fun K hK => ?_
      refine Kd.R_append_step k67 (w0 := w) w.heap.size (by rfl) (.tmp 26) (.tmp 32) 28 67 (.agg #[(.string ⟨#[]⟩), (.string ⟨#[]⟩), (.int .i64 0)]) 40 rfl Try.underlying28 info67 rfl (by decide) (by omega) u111000 x111000_1 (⟨(rd_T67 l0_0 x6_1).f0, (rd_T67 l0_0 x6_1).f1, (rd_T67 l0_0 x6_1).f2⟩ : S67) [.string ((rd_T67 l0_0 x6_1).f0), .string ((rd_T67 l0_0 x6_1).f1), .int .i64 ((rd_T67 l0_0 x6_1).f2)] (fun k_ => k_ ≠ gb108) (fun _ => False) rfl rfl ?aP (fun _ hk => hk.elim) ?aF ?aO ?aB ?aS ?aL ?_
      (case aP => exact k67_mkM _ _ _ (⟨(rd_T67 l0_0 x6_1).f0, (rd_T67 l0_0 x6_1).f1, (rd_T67 l0_0 x6_1).f2⟩ : S67))
      (case aB => exact (hS))
      (case aF => exact (fun k_ hk => Kd.freshB (g := gb108) (o := .cells #[.string a1_0, .string a1_1, .int .i64 a1_2] 67 (0, 0)) (bk BK108) k_ hk))
      (case aO => exact (by exact HO_111000.out))
      (case aS => exact (below_size (hS)))
      (case aL => have := LMc14.out; omega)
      intro v114 w21 ho hb hg hat
      rw [← Ny113.out] at ho
      replace BK107 := AM (blk_grown (g := gb107) (o := .cells #[.slice (some ad111) l0_0.length c0_0] 30 (0, 0)) (bk BK107) hg (Kd.R_ne HO_111000.out BK107.out (by decide)))
      replace BK108 := AM (blk_grown (g := gb108) (o := .cells #[.string a1_0, .string a1_1, .int .i64 a1_2] 67 (0, 0)) (bk BK108) hg (Kd.R_away HO_111000.out (fun _ hk => hk)))
      replace BK109 := AM (blk_grown (g := gb109) (o := .cells #[.slice none 0 0] 30 (0, 0)) (bk BK109) hg (Kd.R_ne HO_111000.out BK109.out (by decide)))
      replace BK110 := AM (blk_grown (g := gb110) (o := .cells #[u111000] 30 (0, 0)) (bk BK110) hg (Kd.R_ne HO_111000.out BK110.out (by decide)))
      replace HB := AM (hb)
      have HO115 := AM (ho)
      clear HO_111000
      clear ho hb hg hat
      obtain ⟨Ao22, co22, eo22⟩ := Kd.R_slice HO115.out
      (first | subst eo22 | (injection eo22 with f1_ f2_ f3_; have f4_ := f1_.symm; have f5_ := f3_.symm; clear f1_ f2_ f3_; subst f4_; subst f5_))
      refine hK.out _ _ ⟨bc BK110 0, bc BK107 0, (cl HB hw112_0), (cl HB hw112_1), (cl HB hw112_2)⟩ (fun hHeld => ?_)
      clear hK K
      refine nr ?_
      refine pt 9 34 ?_
      refine zt 10 none fun K hK => ?_
      have hs23 : w21.cell? ⟨gb110, 0, none⟩ = some (u111000) := bc BK110 0
      have hfs23 := bz BK110 0
      have hns23_0 := NB107_110.out
      have hns23_1 := NB108_110.out
      have hns23_2 := NB109_110.out
      have hms23_0 := NB110_107.out
      have hms23_1 := NB110_108.out
      have hms23_2 := NB110_109.out
      refine sk ?_
      refine hK.out _ _ ?_
      clear hK K
      refine dn ?_
      try go_wp2
      go_roundg k1
      case measure => have := HK1.out; omega
      case rel => exact ⟨(wrap64 (x6_1 + 1)), (y113), (.slice Ao22 y113.length co22), sf, H', ⟨by have := HK1.out; omega⟩, ⟨by exact Kd.R_mono (Kd.R_far (p := ⟨gb110, 0, none⟩) (Kd.R_types HO115.out BK110.out (by decide)) (fun _ hk => hk.2) (.slice Ao22 y113.length co22)) (fun _ hk => hk.1)⟩, ⟨be⟩, ⟨be⟩, ⟨be⟩, ⟨bp #[u111000] 0⟩, ⟨hS⟩⟩
     rw [if_neg c14] at H
     exact absurd H (by simp)
    rw [if_neg c13] at H
    have c13b0 : (Op.bytesLess (((rd_T67 l0_0 x6_1).f0).toList) a1_0.toList) = false := by simpa using c13
    clear c13
    have H' := AM H
    clear H
    have hnb24 := NB107_108.out
    have hnc24 := NB108_107.out
    have hnb25 := NB107_109.out
    have hnc25 := NB109_107.out
    have hnb26 := NB107_110.out
    have hnc26 := NB110_107.out
    have hcz27_0 := bv BK107 0 (.slice A0_0 l0_0.length c0_0)
    have hfz27_0 := bz BK107 0
    try go_wp2
    replace HO_111000 := AM (Kd.R_drew HO_111000.out)
    replace BK107 := AM (blk_drew BK107.out)
    replace BK108 := AM (blk_drew BK108.out)
    replace BK109 := AM (blk_drew BK109.out)
    replace BK110 := AM (blk_drew BK110.out)
    replace HB := AM (below_drew1 HB.out)
    have p111 : 0 ≤ (x6_1 : Int) := od
    have q111 : x6_1 < (l0_0.length : Int) := od
    obtain ⟨ad111, e111, hx111_0, hx111_1, hx111_2⟩ := at_T67 HR0_0.out x6_1 p111 q111
    have hw111_2 := hx111_2
    have hw111_1 := hx111_1
    have hw111_0 := hx111_0
    cases e111
    replace hx111_0 := cl HB hx111_0
    replace hx111_1 := cl HB hx111_1
    replace hx111_2 := cl HB hx111_2
    replace p111 := eq_true p111
    replace q111 := eq_true q111
    refine sr 9 (fun w' => w'.cell? ⟨gb107, 0, none⟩ = some (.slice (some ad111) l0_0.length c0_0) ∧ w'.cell? ⟨gb108, 0, none⟩ = some (.string a1_0) ∧ w'.cell? ⟨gb108, 1, none⟩ = some (.string a1_1) ∧ w'.cell? ⟨gb108, 2, none⟩ = some (.int .i64 a1_2) ∧ w'.cell? (ad111.add ((x6_1).toNat * 3)) = some (.string ((rd_T67 l0_0 x6_1).f0)) ∧ w'.cell? ⟨(ad111.add ((x6_1).toNat * 3)).block, (ad111.add ((x6_1).toNat * 3)).off + 1, none⟩ = some (.string ((rd_T67 l0_0 x6_1).f1)) ∧ w'.cell? ⟨(ad111.add ((x6_1).toNat * 3)).block, (ad111.add ((x6_1).toNat * 3)).off + 2, none⟩ = some (.int .i64 ((rd_T67 l0_0 x6_1).f2))) [] ⟨bc BK107 0, bc BK108 0, bc BK108 1, bc BK108 2, (cl HB hw111_0), (cl HB hw111_1), (cl HB hw111_2)⟩ (fun hHeld => ?_); refine with_tabW spec_l03Put.tab5 spec_l03Put.bits5 (fun HT_ HW_ => ?_)
    generalize wr.drew = w28 at HO_111000 BK107 BK108 BK109 BK110 HB hx111_0 hx111_1 hx111_2 hHeld ⊢
    refine pt 0 16 ?_; refine pt 2 18 ?_; refine pt 6 22 ?_; refine tt 1 17 ?_; refine pt 3 19 ?_; refine pt 4 20 ?_; refine tt 5 21 ?_; refine tt 7 23 ?_; refine pt 8 24 ?_
    refine dn ?_
    try go_wp2
    go_roundg k1
    case measure => have := HK1.out; omega
    case rel => exact ⟨(wrap64 (x6_1 + 1)), (x111000_1), (u111000), sf, H', ⟨by have := HK1.out; omega⟩, ⟨by exact HO_111000.out⟩, ⟨bk BK107⟩, ⟨bk BK108⟩, ⟨bk BK109⟩, ⟨bk BK110⟩, ⟨hS⟩⟩
   rw [if_neg c12] at H
   exact absurd H (by simp)
  rw [if_neg c11] at H
  have c11b0 : decide (x6_1 < (l0_0.length : Int)) = false := decide_eq_false c11
  clear c11
  by_cases c29 : x111000_1.length < 3518437208883
  ·rw [if_pos c29] at H
   have LMc29 := AM c29
   clear c29
   obtain ⟨y116, hy116⟩ : ∃ y_ : List (S67), y_ = (x111000_1 ++ [(⟨a1_0, a1_1, a1_2⟩ : S67)]) := ⟨_, rfl⟩
   replace H : (spec_l03Put.l1 k1 0 l0_0 a1_0 a1_1 a1_2 y116) = some r := by first | (rw [hy116]; with_reducible exact H) | (have H2_ := (Option.bind_some _ _).symm.trans H; rw [hy116]; with_reducible exact H2_) | (have H2_ := (Option.bind_some _ _).symm.trans H; with_reducible exact H2_) | with_reducible exact H | (rw [hy116]; exact H) | exact H
   have Ny116 := AM hy116
   clear hy116
   have H' := AM H
   clear H
   have hnb30 := NB107_108.out
   have hnc30 := NB108_107.out
   have hnb31 := NB107_109.out
   have hnc31 := NB109_107.out
   have hnb32 := NB107_110.out
   have hnc32 := NB110_107.out
   have hcz33_0 := bv BK107 0 (.slice A0_0 l0_0.length c0_0)
   have hfz33_0 := bz BK107 0
   have hnb34 := NB110_108.out
   have hnc34 := NB108_110.out
   have hnb35 := NB110_109.out
   have hnc35 := NB109_110.out
   have hcz36_0 := bv BK110 0 (u111000)
   have hfz36_0 := bz BK110 0
   have hnb37 := NB108_109.out
   have hnc37 := NB109_108.out
   have hcz38_0 := bv BK108 0 (.string a1_0)
   have hcz38_1 := bv BK108 1 (.string a1_1)
   have hcz38_2 := bv BK108 2 (.int .i64 a1_2)
   have hfz38_0 := bz BK108 0
   have hfz38_1 := bz BK108 1
   have hfz38_2 := bz BK108 2
   go_wp2_with (first | ((with_reducible refine gate_builtin (b := .append) (xs := #[.tmp 36, .tmp 38]) rfl ?_); at_builtin; refine Kd.R_append k67 (w0 := w) w.heap.size rfl (.tmp 36) (.tmp 38) 28 67 (.agg #[(.string ⟨#[]⟩), (.string ⟨#[]⟩), (.int .i64 0)]) 40 rfl Try.underlying28 info67 rfl (by decide) (by omega) u111000 x111000_1 (⟨a1_0, a1_1, a1_2⟩ : S67) [.string a1_0, .string a1_1, .int .i64 a1_2] (fun k_ => k_ ≠ gb108) (fun _ => False) rfl rfl ?aP (fun _ hk => hk.elim) ?aF ?aO ?aB ?aS ?aL ?_; (case aP => exact k67_mkM _ _ _ (⟨a1_0, a1_1, a1_2⟩ : S67)); (case aB => exact (hS)); (case aF => exact (fun k_ hk => Kd.freshB (g := gb108) (o := .cells #[.string a1_0, .string a1_1, .int .i64 a1_2] 67 (0, 0)) (bk BK108) k_ hk)); (case aO => exact (by exact HO_111000.out)); (case aS => exact (below_size (hS))); (case aL => have := LMc29.out; omega); intro v117 w39 ho hb hg hat; rw [← Ny116.out] at ho; replace BK107 := AM (blk_grown (g := gb107) (o := .cells #[.slice A0_0 l0_0.length c0_0] 30 (0, 0)) (bk BK107) hg (Kd.R_ne HO_111000.out BK107.out (by decide))); replace BK108 := AM (blk_grown (g := gb108) (o := .cells #[.string a1_0, .string a1_1, .int .i64 a1_2] 67 (0, 0)) (bk BK108) hg (Kd.R_away HO_111000.out (fun _ hk => hk))); replace BK109 := AM (blk_grown (g := gb109) (o := .cells #[.slice none 0 0] 30 (0, 0)) (bk BK109) hg (Kd.R_ne HO_111000.out BK109.out (by decide))); replace BK110 := AM (blk_grown (g := gb110) (o := .cells #[u111000] 30 (0, 0)) (bk BK110) hg (Kd.R_ne HO_111000.out BK110.out (by decide))); replace HB := AM (hb); have HO118 := AM (ho); clear HO_111000; clear ho hb hg hat; obtain ⟨Ao40, co40, eo40⟩ := Kd.R_slice HO118.out; subst eo40; have hcz41_0 := bv BK110 0 (u111000); have hfz41_0 := bz BK110 0))
   go_loopg [7] k1 (fun kq v7 w' => ∃ (x7_2 : Int) (x111000_2 : List (S67)) (u111000 : Value), v7 = .int .i64 x7_2 ∧ Aside0 (spec_l03Put.l1 kq x7_2 l0_0 a1_0 a1_1 a1_2 x111000_2 = some r) ∧ Aside0 (kq ≤ k1) ∧ Aside0 (Kd.R k67 67 w' w.heap.size (fun k_ => k_ ≠ gb108) u111000 x111000_2) ∧ Aside0 (w'.heap[gb107]? = some (.cells #[(.slice A0_0 l0_0.length c0_0)] 30 (0, 0))) ∧ Aside0 (w'.heap[gb108]? = some (.cells #[.string a1_0, .string a1_1, .int .i64 a1_2] 67 (0, 0))) ∧ Aside0 (w'.heap[gb109]? = some (.cells #[(.slice none 0 0)] 30 (0, 0))) ∧ Aside0 (w'.heap[gb110]? = some (.cells #[u111000] 30 (0, 0))) ∧ Aside0 (Below w.heap.size w w'))
   case atStart => exact ⟨(0), (y116), (.slice Ao40 y116.length co40), sf, H', ⟨Nat.le_refl _⟩, ⟨by exact Kd.R_mono (Kd.R_far (p := ⟨gb110, 0, none⟩) (Kd.R_types HO118.out BK110.out (by decide)) (fun _ hk => hk.2) (.slice Ao40 y116.length co40)) (fun _ hk => hk.1)⟩, ⟨be⟩, ⟨be⟩, ⟨be⟩, ⟨bp #[u111000] 0⟩, ⟨hS⟩⟩
   clear H'
   obtain ⟨x7_2, x111000_2, u111000, rfl, HA, HK2, HO_111000, BK107, BK108, BK109, BK110, HB⟩ := hrel
   cases gk with
   | zero => exact absurd HA.out (by simp [spec_l03Put.l1])
   | succ k2 =>
    have H := HA.out
    clear HA
    simp only [spec_l03Put.l1] at H
    by_cases c42 : x7_2 < (l0_0.length : Int)
    ·rw [if_pos c42] at H
     have c42b0 : decide (x7_2 < (l0_0.length : Int)) = true := decide_eq_true c42
     clear c42
     by_cases c43 : 0 ≤ x7_2
     ·rw [if_pos c43] at H
      have c43b0 : decide (0 ≤ x7_2) = true := decide_eq_true c43
      clear c43
      by_cases c44 : (Op.bytesLess a1_0.toList (((rd_T67 l0_0 x7_2).f0).toList)) = true
      ·rw [if_pos c44] at H
       have c44b0 : (Op.bytesLess a1_0.toList (((rd_T67 l0_0 x7_2).f0).toList)) = true := c44
       clear c44
       by_cases c45 : x111000_2.length < 3518437208883
       ·rw [if_pos c45] at H
        have LMc45 := AM c45
        clear c45
        obtain ⟨y121, hy121⟩ : ∃ y_ : List (S67), y_ = (x111000_2 ++ [(⟨(rd_T67 l0_0 x7_2).f0, (rd_T67 l0_0 x7_2).f1, (rd_T67 l0_0 x7_2).f2⟩ : S67)]) := ⟨_, rfl⟩
        replace H : (spec_l03Put.l1 k2 (wrap64 (x7_2 + 1)) l0_0 a1_0 a1_1 a1_2 y121) = some r := by first | (rw [hy121]; with_reducible exact H) | (have H2_ := (Option.bind_some _ _).symm.trans H; rw [hy121]; with_reducible exact H2_) | (have H2_ := (Option.bind_some _ _).symm.trans H; with_reducible exact H2_) | with_reducible exact H | (rw [hy121]; exact H) | exact H
        have Ny121 := AM hy121
        clear hy121
        have H' := AM H
        clear H
        have hnb46 := NB107_108.out
        have hnc46 := NB108_107.out
        have hnb47 := NB107_109.out
        have hnc47 := NB109_107.out
        have hnb48 := NB107_110.out
        have hnc48 := NB110_107.out
        have hcz49_0 := bv BK107 0 (.slice A0_0 l0_0.length c0_0)
        have hfz49_0 := bz BK107 0
        try go_wp2
        replace HO_111000 := AM (Kd.R_drew HO_111000.out)
        replace BK107 := AM (blk_drew BK107.out)
        replace BK108 := AM (blk_drew BK108.out)
        replace BK109 := AM (blk_drew BK109.out)
        replace BK110 := AM (blk_drew BK110.out)
        replace HB := AM (below_drew1 HB.out)
        have p119 : 0 ≤ (x7_2 : Int) := od
        have q119 : x7_2 < (l0_0.length : Int) := od
        obtain ⟨ad119, e119, hx119_0, hx119_1, hx119_2⟩ := at_T67 HR0_0.out x7_2 p119 q119
        have hw119_2 := hx119_2
        have hw119_1 := hx119_1
        have hw119_0 := hx119_0
        cases e119
        replace hx119_0 := cl HB hx119_0
        replace hx119_1 := cl HB hx119_1
        replace hx119_2 := cl HB hx119_2
        replace p119 := eq_true p119
        replace q119 := eq_true q119
        refine sr 9 (fun w' => w'.cell? ⟨gb107, 0, none⟩ = some (.slice (some ad119) l0_0.length c0_0) ∧ w'.cell? ⟨gb108, 0, none⟩ = some (.string a1_0) ∧ w'.cell? ⟨gb108, 1, none⟩ = some (.string a1_1) ∧ w'.cell? ⟨gb108, 2, none⟩ = some (.int .i64 a1_2) ∧ w'.cell? (ad119.add ((x7_2).toNat * 3)) = some (.string ((rd_T67 l0_0 x7_2).f0)) ∧ w'.cell? ⟨(ad119.add ((x7_2).toNat * 3)).block, (ad119.add ((x7_2).toNat * 3)).off + 1, none⟩ = some (.string ((rd_T67 l0_0 x7_2).f1)) ∧ w'.cell? ⟨(ad119.add ((x7_2).toNat * 3)).block, (ad119.add ((x7_2).toNat * 3)).off + 2, none⟩ = some (.int .i64 ((rd_T67 l0_0 x7_2).f2))) [] ⟨bc BK107 0, bc BK108 0, bc BK108 1, bc BK108 2, (cl HB hw119_0), (cl HB hw119_1), (cl HB hw119_2)⟩ (fun hHeld => ?_); refine with_tabW spec_l03Put.tab11 spec_l03Put.bits11 (fun HT_ HW_ => ?_)
        generalize wr.drew = w50 at HO_111000 BK107 BK108 BK109 BK110 HB hx119_0 hx119_1 hx119_2 hHeld ⊢
        refine pt 0 48 ?_; refine pt 2 50 ?_; refine pt 6 54 ?_; refine tt 1 49 ?_; refine pt 3 51 ?_; refine pt 4 52 ?_; refine tt 5 53 ?_; refine tt 7 55 ?_; refine pt 8 56 ?_
        refine dn ?_
        try go_wp2
        replace HO_111000 := AM (Kd.R_drew HO_111000.out)
        replace BK107 := AM (blk_drew BK107.out)
        replace BK108 := AM (blk_drew BK108.out)
        replace BK109 := AM (blk_drew BK109.out)
        replace BK110 := AM (blk_drew BK110.out)
        replace HB := AM (below_drew1 HB.out)
        have p120 : 0 ≤ (x7_2 : Int) := od
        have q120 : x7_2 < (l0_0.length : Int) := od
        obtain ⟨ad120, e120, hx120_0, hx120_1, hx120_2⟩ := at_T67 HR0_0.out x7_2 p120 q120
        have hw120_2 := hx120_2
        have hw120_1 := hx120_1
        have hw120_0 := hx120_0
        obtain rfl : ad119 = ad120 := (by injection e120)
        replace hx120_0 := cl HB hx120_0
        replace hx120_1 := cl HB hx120_1
        replace hx120_2 := cl HB hx120_2
        replace p120 := eq_true p120
        replace q120 := eq_true q120
        refine sr 11 (fun w' => w'.cell? ⟨gb110, 0, none⟩ = some (u111000) ∧ w'.cell? ⟨gb107, 0, none⟩ = some (.slice (some ad119) l0_0.length c0_0) ∧ w'.cell? (ad119.add ((x7_2).toNat * 3)) = some (.string ((rd_T67 l0_0 x7_2).f0)) ∧ w'.cell? ⟨(ad119.add ((x7_2).toNat * 3)).block, (ad119.add ((x7_2).toNat * 3)).off + 1, none⟩ = some (.string ((rd_T67 l0_0 x7_2).f1)) ∧ w'.cell? ⟨(ad119.add ((x7_2).toNat * 3)).block, (ad119.add ((x7_2).toNat * 3)).off + 2, none⟩ = some (.int .i64 ((rd_T67 l0_0 x7_2).f2))) [10] ⟨bc BK110 0, bc BK107 0, (cl HB hw120_0), (cl HB hw120_1), (cl HB hw120_2)⟩ (fun hHeld => ?_); refine with_tabW spec_l03Put.tab12 spec_l03Put.bits12 (fun HT_ HW_ => ?_)
        generalize w50.drew = w51 at HO_111000 BK107 BK108 BK109 BK110 HB hx120_0 hx120_1 hx120_2 hHeld ⊢
        refine pt 0 57 ?_; refine pt 2 59 ?_; refine pt 4 61 ?_; refine tt 1 58 ?_; refine tt 3 60 ?_; refine pt 5 62 ?_; refine tt 6 63 ?_
        refine ot 7 (some 64) fun K hK => ?_
        refine vl ?_
        refine hK.out _ _ ⟨(blk_cell (blk_alloc BK110.out _) 0).trans rfl, (blk_cell (blk_alloc BK107.out _) 0).trans rfl, (World.cell?_alloc_lt _ _ _ (World.block_lt_of_cell? _ _ ((cl HB hw120_0)))).trans ((cl HB hw120_0)), (World.cell?_alloc_lt _ _ _ (World.block_lt_of_cell? _ _ ((cl HB hw120_1)))).trans ((cl HB hw120_1)), (World.cell?_alloc_lt _ _ _ (World.block_lt_of_cell? _ _ ((cl HB hw120_2)))).trans ((cl HB hw120_2))⟩ (fun hHeld => ?_)
        clear hK K
        refine nr ?_
        refine ot 8 (some 65) fun K hK => ?_
        refine Kd.R_append_step k67 (w0 := w) w.heap.size (by rfl) (.tmp 58) (.tmp 64) 28 67 (.agg #[(.string ⟨#[]⟩), (.string ⟨#[]⟩), (.int .i64 0)]) 40 rfl Try.underlying28 info67 rfl (by decide) (by omega) u111000 x111000_2 (⟨(rd_T67 l0_0 x7_2).f0, (rd_T67 l0_0 x7_2).f1, (rd_T67 l0_0 x7_2).f2⟩ : S67) [.string ((rd_T67 l0_0 x7_2).f0), .string ((rd_T67 l0_0 x7_2).f1), .int .i64 ((rd_T67 l0_0 x7_2).f2)] (fun k_ => k_ ≠ gb108) (fun _ => False) rfl rfl ?aP (fun _ hk => hk.elim) ?aF ?aO ?aB ?aS ?aL ?_
        (case aP => exact k67_mkM _ _ _ (⟨(rd_T67 l0_0 x7_2).f0, (rd_T67 l0_0 x7_2).f1, (rd_T67 l0_0 x7_2).f2⟩ : S67))
        (case aB => exact (hS))
        (case aF => exact (fun k_ hk => Kd.freshB (g := gb108) (o := .cells #[.string a1_0, .string a1_1, .int .i64 a1_2] 67 (0, 0)) (bk BK108) k_ hk))
        (case aO => exact (by exact HO_111000.out))
        (case aS => exact (below_size (hS)))
        (case aL => have := LMc45.out; omega)
        intro v122 w52 ho hb hg hat
        rw [← Ny121.out] at ho
        replace BK107 := AM (blk_grown (g := gb107) (o := .cells #[.slice (some ad119) l0_0.length c0_0] 30 (0, 0)) (bk BK107) hg (Kd.R_ne HO_111000.out BK107.out (by decide)))
        replace BK108 := AM (blk_grown (g := gb108) (o := .cells #[.string a1_0, .string a1_1, .int .i64 a1_2] 67 (0, 0)) (bk BK108) hg (Kd.R_away HO_111000.out (fun _ hk => hk)))
        replace BK109 := AM (blk_grown (g := gb109) (o := .cells #[.slice none 0 0] 30 (0, 0)) (bk BK109) hg (Kd.R_ne HO_111000.out BK109.out (by decide)))
        replace BK110 := AM (blk_grown (g := gb110) (o := .cells #[u111000] 30 (0, 0)) (bk BK110) hg (Kd.R_ne HO_111000.out BK110.out (by decide)))
        replace HB := AM (hb)
        have HO123 := AM (ho)
        clear HO_111000
        clear ho hb hg hat
        obtain ⟨Ao53, co53, eo53⟩ := Kd.R_slice HO123.out
        (first | subst eo53 | (injection eo53 with f1_ f2_ f3_; have f4_ := f1_.symm; have f5_ := f3_.symm; clear f1_ f2_ f3_; subst f4_; subst f5_))
        refine hK.out _ _ ⟨bc BK110 0, bc BK107 0, (cl HB hw120_0), (cl HB hw120_1), (cl HB hw120_2)⟩ (fun hHeld => ?_)
        clear hK K
        refine nr ?_
        refine pt 9 66 ?_
        refine zt 10 none fun K hK => ?_
        have hs54 : w52.cell? ⟨gb110, 0, none⟩ = some (u111000) := bc BK110 0
        have hfs54 := bz BK110 0
        have hns54_0 := NB107_110.out
        have hns54_1 := NB108_110.out
        have hns54_2 := NB109_110.out
        have hms54_0 := NB110_107.out
        have hms54_1 := NB110_108.out
        have hms54_2 := NB110_109.out
        refine sk ?_
        refine hK.out _ _ ?_
        clear hK K
        refine dn ?_
        try go_wp2
        go_roundg k2
        case measure => have := HK1.out; have := HK2.out; omega
        case rel => exact ⟨(wrap64 (x7_2 + 1)), (y121), (.slice Ao53 y121.length co53), sf, H', ⟨by have := HK1.out; have := HK2.out; omega⟩, ⟨by exact Kd.R_mono (Kd.R_far (p := ⟨gb110, 0, none⟩) (Kd.R_types HO123.out BK110.out (by decide)) (fun _ hk => hk.2) (.slice Ao53 y121.length co53)) (fun _ hk => hk.1)⟩, ⟨be⟩, ⟨be⟩, ⟨be⟩, ⟨bp #[u111000] 0⟩, ⟨hS⟩⟩
       rw [if_neg c45] at H
       exact absurd H (by simp)
      rw [if_neg c44] at H
      have c44b0 : (Op.bytesLess a1_0.toList (((rd_T67 l0_0 x7_2).f0).toList)) = false := by simpa using c44
      clear c44
      have H' := AM H
      clear H
      have hnb55 := NB107_108.out
      have hnc55 := NB108_107.out
      have hnb56 := NB107_109.out
      have hnc56 := NB109_107.out
      have hnb57 := NB107_110.out
      have hnc57 := NB110_107.out
      have hcz58_0 := bv BK107 0 (.slice A0_0 l0_0.length c0_0)
      have hfz58_0 := bz BK107 0
      try go_wp2
      replace HO_111000 := AM (Kd.R_drew HO_111000.out)
      replace BK107 := AM (blk_drew BK107.out)
      replace BK108 := AM (blk_drew BK108.out)
      replace BK109 := AM (blk_drew BK109.out)
      replace BK110 := AM (blk_drew BK110.out)
      replace HB := AM (below_drew1 HB.out)
      have p119 : 0 ≤ (x7_2 : Int) := od
      have q119 : x7_2 < (l0_0.length : Int) := od
      obtain ⟨ad119, e119, hx119_0, hx119_1, hx119_2⟩ := at_T67 HR0_0.out x7_2 p119 q119
      have hw119_2 := hx119_2
      have hw119_1 := hx119_1
      have hw119_0 := hx119_0
      cases e119
      replace hx119_0 := cl HB hx119_0
      replace hx119_1 := cl HB hx119_1
      replace hx119_2 := cl HB hx119_2
      replace p119 := eq_true p119
      replace q119 := eq_true q119
      refine sr 9 (fun w' => w'.cell? ⟨gb107, 0, none⟩ = some (.slice (some ad119) l0_0.length c0_0) ∧ w'.cell? ⟨gb108, 0, none⟩ = some (.string a1_0) ∧ w'.cell? ⟨gb108, 1, none⟩ = some (.string a1_1) ∧ w'.cell? ⟨gb108, 2, none⟩ = some (.int .i64 a1_2) ∧ w'.cell? (ad119.add ((x7_2).toNat * 3)) = some (.string ((rd_T67 l0_0 x7_2).f0)) ∧ w'.cell? ⟨(ad119.add ((x7_2).toNat * 3)).block, (ad119.add ((x7_2).toNat * 3)).off + 1, none⟩ = some (.string ((rd_T67 l0_0 x7_2).f1)) ∧ w'.cell? ⟨(ad119.add ((x7_2).toNat * 3)).block, (ad119.add ((x7_2).toNat * 3)).off + 2, none⟩ = some (.int .i64 ((rd_T67 l0_0 x7_2).f2))) [] ⟨bc BK107 0, bc BK108 0, bc BK108 1, bc BK108 2, (cl HB hw119_0), (cl HB hw119_1), (cl HB hw119_2)⟩ (fun hHeld => ?_); refine with_tabW spec_l03Put.tab11 spec_l03Put.bits11 (fun HT_ HW_ => ?_)
      generalize wr.drew = w59 at HO_111000 BK107 BK108 BK109 BK110 HB hx119_0 hx119_1 hx119_2 hHeld ⊢
      refine pt 0 48 ?_; refine pt 2 50 ?_; refine pt 6 54 ?_; refine tt 1 49 ?_; refine pt 3 51 ?_; refine pt 4 52 ?_; refine tt 5 53 ?_; refine tt 7 55 ?_; refine pt 8 56 ?_
      refine dn ?_
      try go_wp2
      go_roundg k2
      case measure => have := HK1.out; have := HK2.out; omega
      case rel => exact ⟨(wrap64 (x7_2 + 1)), (x111000_2), (u111000), sf, H', ⟨by have := HK1.out; have := HK2.out; omega⟩, ⟨by exact HO_111000.out⟩, ⟨bk BK107⟩, ⟨bk BK108⟩, ⟨bk BK109⟩, ⟨bk BK110⟩, ⟨hS⟩⟩
     rw [if_neg c43] at H
     exact absurd H (by simp)
    rw [if_neg c42] at H
    have c42b0 : decide (x7_2 < (l0_0.length : Int)) = false := decide_eq_false c42
    clear c42
    obtain rfl := Option.some.inj H
    have hnb60 := NB107_108.out
    have hnc60 := NB108_107.out
    have hnb61 := NB107_109.out
    have hnc61 := NB109_107.out
    have hnb62 := NB107_110.out
    have hnc62 := NB110_107.out
    have hcz63_0 := bv BK107 0 (.slice A0_0 l0_0.length c0_0)
    have hfz63_0 := bz BK107 0
    have hnb64 := NB110_108.out
    have hnc64 := NB108_110.out
    have hnb65 := NB110_109.out
    have hnc65 := NB109_110.out
    have hcz66_0 := bv BK110 0 (u111000)
    have hfz66_0 := bz BK110 0
    obtain ⟨Ao67, co67, eo67⟩ := Kd.R_slice HO_111000.out
    subst eo67
    have hnb68 := NB109_108.out
    have hnc68 := NB108_109.out
    have hcz69_0 := bv BK109 0 (.slice none 0 0)
    have hfz69_0 := bz BK109 0
    go_wp2
    refine bodyPost_ret (results_cell_row rfl _ _ gb109 30 #[.slice Ao67 x111000_2.length co67] (0, 0) _ rfl (bp #[.slice none 0 0] 0) Try.underlying30 rfl (by kernel_rfl)) rfl ?_
    exact ⟨_, er, by exact Kd.R_mono (Kd.R_far (p := ⟨gb109, 0, none⟩) (Kd.R_types HO_111000.out BK109.out (by decide)) (fun _ hk => hk.2) (.slice Ao67 x111000_2.length co67)) (fun _ hk => trivial), hS⟩
  rw [if_neg c29] at H
  exact absurd H (by simp)

/-! ### spec_l03Without: function 47 -/
def spec_l03Without.l0 : Nat → ByteArray → Int → List (S67) → List (S67) → Option ((List (S67)))
 | 0, _, _, _, _ => none
 | k + 1, x1, x6, x125000, x127000 => if x6 < (x125000.length : Int) then (if 0 ≤ x6 then (if ((rd_T67 x125000 x6).f0).toList = x1.toList then (spec_l03Without.l0 k x1 (wrap64 (x6 + 1)) x125000 x127000) else (if x127000.length < 3518437208883 then (spec_l03Without.l0 k x1 (wrap64 (x6 + 1)) x125000 (x127000 ++ [(⟨(rd_T67 x125000 x6).f0, (rd_T67 x125000 x6).f1, (rd_T67 x125000 x6).f2⟩ : S67)])) else (none))) else (none)) else (some x127000)
def spec_l03Without.f (k : Nat) (l0_0 : List (S67)) (a1 : ByteArray) : Option ((List (S67))) := spec_l03Without.l0 k a1 0 l0_0 ([] : List (S67))
theorem spec_l03Without.mono_l : ∀ k, (∀ y0 y1 y2 y3, LeO (spec_l03Without.l0 k y0 y1 y2 y3) (spec_l03Without.l0 (k + 1) y0 y1 y2 y3))
 | 0 => fun _ _ _ _ r h => by simp [spec_l03Without.l0] at h
 | k + 1 => by
  have ih0 := spec_l03Without.mono_l k
  intro y0 y1 y2 y3
  unfold spec_l03Without.l0
  repeat' first
  | (with_reducible exact LeO.refl _)
  | (with_reducible refine LeO.ite ?_ ?_)
  | (with_reducible refine LeO.bind ?_ (fun _ => ?_))
  | exact ih0 _ _ _ _
  | exact LeO.none _
  | refine LeO.ite ?_ ?_
  | refine LeO.bind ?_ (fun _ => ?_)
theorem spec_l03Without.mono : ∀ a0 a1 k, LeO (spec_l03Without.f k a0 a1) (spec_l03Without.f (k + 1) a0 a1) := by
 intro a0 a1 k
 have ih0 := spec_l03Without.mono_l k
 unfold spec_l03Without.f
 repeat' first
   | (with_reducible exact LeO.refl _)
   | (with_reducible refine LeO.ite ?_ ?_)
   | (with_reducible refine LeO.bind ?_ (fun _ => ?_))
   | exact ih0 _ _ _ _
   | exact LeO.none _
   | refine LeO.ite ?_ ?_
   | refine LeO.bind ?_ (fun _ => ?_)
def spec_l03Without.T6 : Bool × List (List Nat × List Nat) := (true, [([], []), ([0], [0]), ([], []), ([2], [2]), ([], []), ([3, 4], [3, 4]), ([5], [5]), ([6], [6]), ([1, 7], [1, 7]), ([0, 1, 2, 3, 4, 5, 6, 7, 8], []), ([9, 8, 8, 0, 1, 2, 3, 4, 5, 6, 7, 8], [8, 9])])
def spec_l03Without.B6 : List Nat := [0, 1, 0, 4, 0, 28, 60, 124, 255, 511, 1023]
theorem spec_l03Without.tab6 : rtab .any (opsOf Try.f47 6) = spec_l03Without.T6 := by kernel_rfl
theorem spec_l03Without.bits6 : waitsOk spec_l03Without.T6.2 spec_l03Without.B6 = true := by kernel_rfl
set_option maxHeartbeats 8000000 in
set_option maxRecDepth 100000 in
theorem spec_l03Without.calls (k : Nat) (A0_0 : Option Addr) (c0_0 : Nat) (l0_0 : List (S67)) (a1 : ByteArray) (r : List (S67)) (w : World) (hr0_0 : Kd.C k67 w A0_0 l0_0.length l0_0) (hc0_0 : l0_0.length ≤ c0_0) (h : spec_l03Without.f k l0_0 a1 = some r) :
  Calls Try.prog 47 #[.agg #[.slice A0_0 l0_0.length c0_0], .string a1] w fun e w' => ∃ v0_ : Value, e = .returned (.agg #[v0_]) ∧ Kd.R k67 67 w' w.heap.size (fun _ => True) v0_ r ∧ Below w.heap.size w w' := by
 have hu30 := Try.underlying30
 have hu67 := Try.underlying67
 have HR0_0 := AM hr0_0
 have HC0_0 := AM hc0_0
 clear hr0_0 hc0_0
 have HB := AM (Below.refl w.heap.size w)
 have H : (spec_l03Without.l0 k a1 0 l0_0 ([] : List (S67))) = some r := h
 clear h
 have H' := AM H
 clear H
 go_enter Try.func47, Try.ntmps47
 go_wp2_with (first | ((with_reducible refine gd 2 rfl ?_); refine bx (N := 2) (cs := #[.slice A0_0 l0_0.length c0_0]) (t := 30) ?_; intro gb124 hg w3 hbox hb; have BK124 := AM (hbox); have GW124 := AM (bs hg HB); have GE124 := AM (bs hg HB); replace HB := bq HB hb; clear hb hbox hg) | ((with_reducible refine gd 4 rfl ?_); refine bx (N := 4) (cs := #[.slice none 0 0]) (t := 30) ?_; intro gb125 hg w4 hbox hb; have BK125 := AM (hbox); have GW125 := AM (bt hg hS); have GE125 := AM (bt hg hS); replace HB := AM (below_step (hS) hb); have NB124_125 := AM (nl hg (bk BK124)); have NB125_124 := AM (ng hg (bk BK124)); replace BK124 := bw BK124 hb; clear hb hbox hg) | ((with_reducible refine gd 5 rfl ?_); refine bx (N := 5) (cs := #[.slice none 0 0]) (t := 30) ?_; intro gb126 hg w5 hbox hb; have BK126 := AM (hbox); have GW126 := AM (bt hg hS); have GE126 := AM (bt hg hS); replace HB := AM (below_step (hS) hb); have NB124_126 := AM (nl hg (bk BK124)); have NB126_124 := AM (ng hg (bk BK124)); replace BK124 := bw BK124 hb; have NB125_126 := AM (nl hg (bk BK125)); have NB126_125 := AM (ng hg (bk BK125)); replace BK125 := bw BK125 hb; clear hb hbox hg; have hnb6 := NB126_124.out; have hnc6 := NB124_126.out; have hnb7 := NB126_125.out; have hnc7 := NB125_126.out; have hcz8_0 := bv BK126 0 (.slice none 0 0); have hfz8_0 := bz BK126 0))
 go_loopg [6] k (fun kq v6 w' => ∃ (x6_1 : Int) (x127000_1 : List (S67)) (u127000 : Value), v6 = .int .i64 x6_1 ∧ Aside0 (spec_l03Without.l0 kq a1 x6_1 l0_0 x127000_1 = some r) ∧ Aside0 (kq ≤ k) ∧ Aside0 (Kd.R k67 67 w' w.heap.size (fun _ => True) u127000 x127000_1) ∧ Aside0 (w'.heap[gb124]? = some (.cells #[(.slice A0_0 l0_0.length c0_0)] 30 (0, 0))) ∧ Aside0 (w'.heap[gb125]? = some (.cells #[(.slice none 0 0)] 30 (0, 0))) ∧ Aside0 (w'.heap[gb126]? = some (.cells #[u127000] 30 (0, 0))) ∧ Aside0 (Below w.heap.size w w'))
 case atStart => exact ⟨(0), (([] : List (S67))), (.slice none 0 0), sf, H', ⟨Nat.le_refl _⟩, ⟨by first | exact Kd.R_nil _ _ _ _ _ | exact Kd.N_nil _ _ _ _ _ | exact Kd.V_nil _ _ _ _ _ | exact Kd.Q_nil _ _ _ _ _ | exact Kd.S_nil _ _ _ _ _⟩, ⟨be⟩, ⟨be⟩, ⟨bp #[.slice none 0 0] 0⟩, ⟨hS⟩⟩
 clear H'
 obtain ⟨x6_1, x127000_1, u127000, rfl, HA, HK1, HO_127000, BK124, BK125, BK126, HB⟩ := hrel
 cases gk with
 | zero => exact absurd HA.out (by simp [spec_l03Without.l0])
 | succ k1 =>
  have H := HA.out
  clear HA
  simp only [spec_l03Without.l0] at H
  by_cases c9 : x6_1 < (l0_0.length : Int)
  ·rw [if_pos c9] at H
   have c9b0 : decide (x6_1 < (l0_0.length : Int)) = true := decide_eq_true c9
   clear c9
   by_cases c10 : 0 ≤ x6_1
   ·rw [if_pos c10] at H
    have c10b0 : decide (0 ≤ x6_1) = true := decide_eq_true c10
    clear c10
    by_cases c11 : ((rd_T67 l0_0 x6_1).f0).toList = a1.toList
    ·rw [if_pos c11] at H
     have c11b0 : (((rd_T67 l0_0 x6_1).f0).toList == a1.toList) = true := beq_iff_eq.mpr c11
     have c11b1 : (((rd_T67 l0_0 x6_1).f0).toList != a1.toList) = false := bne_eq_false_iff_eq.mpr c11
     clear c11
     have H' := AM H
     clear H
     have hnb12 := NB124_125.out
     have hnc12 := NB125_124.out
     have hnb13 := NB124_126.out
     have hnc13 := NB126_124.out
     have hcz14_0 := bv BK124 0 (.slice A0_0 l0_0.length c0_0)
     have hfz14_0 := bz BK124 0
     have p127 : 0 ≤ (x6_1 : Int) := od
     have q127 : x6_1 < (l0_0.length : Int) := od
     obtain ⟨ad127, e127, hx127_0, hx127_1, hx127_2⟩ := at_T67 HR0_0.out x6_1 p127 q127
     cases e127
     replace hx127_0 := cl HB hx127_0
     replace hx127_1 := cl HB hx127_1
     replace hx127_2 := cl HB hx127_2
     replace p127 := eq_true p127
     replace q127 := eq_true q127
     go_wp2
     go_roundg k1
     case measure => have := HK1.out; omega
     case rel => exact ⟨(wrap64 (x6_1 + 1)), (x127000_1), (u127000), sf, H', ⟨by have := HK1.out; omega⟩, ⟨by exact HO_127000.out⟩, ⟨bk BK124⟩, ⟨bk BK125⟩, ⟨bk BK126⟩, ⟨hS⟩⟩
    rw [if_neg c11] at H
    have c11b0 : (((rd_T67 l0_0 x6_1).f0).toList == a1.toList) = false := beq_eq_false_iff_ne.mpr c11
    have c11b1 : (((rd_T67 l0_0 x6_1).f0).toList != a1.toList) = true := bne_iff_ne.mpr c11
    by_cases c15 : x127000_1.length < 3518437208883
    ·rw [if_pos c15] at H
     have LMc15 := AM c15
     clear c15
     obtain ⟨y129, hy129⟩ : ∃ y_ : List (S67), y_ = (x127000_1 ++ [(⟨(rd_T67 l0_0 x6_1).f0, (rd_T67 l0_0 x6_1).f1, (rd_T67 l0_0 x6_1).f2⟩ : S67)]) := ⟨_, rfl⟩
     replace H : (spec_l03Without.l0 k1 a1 (wrap64 (x6_1 + 1)) l0_0 y129) = some r := by first | (rw [hy129]; with_reducible exact H) | (have H2_ := (Option.bind_some _ _).symm.trans H; rw [hy129]; with_reducible exact H2_) | (have H2_ := (Option.bind_some _ _).symm.trans H; with_reducible exact H2_) | with_reducible exact H | (rw [hy129]; exact H) | exact H
     have Ny129 := AM hy129
     clear hy129
     have H' := AM H
     clear H
     have hnb16 := NB124_125.out
     have hnc16 := NB125_124.out
     have hnb17 := NB124_126.out
     have hnc17 := NB126_124.out
     have hcz18_0 := bv BK124 0 (.slice A0_0 l0_0.length c0_0)
     have hfz18_0 := bz BK124 0
     have p127 : 0 ≤ (x6_1 : Int) := od
     have q127 : x6_1 < (l0_0.length : Int) := od
     obtain ⟨ad127, e127, hx127_0, hx127_1, hx127_2⟩ := at_T67 HR0_0.out x6_1 p127 q127
     cases e127
     replace hx127_0 := cl HB hx127_0
     replace hx127_1 := cl HB hx127_1
     replace hx127_2 := cl HB hx127_2
     replace p127 := eq_true p127
     replace q127 := eq_true q127
     try go_wp2
     replace HO_127000 := AM (Kd.R_drew HO_127000.out)
     replace BK124 := AM (blk_drew BK124.out)
     replace BK125 := AM (blk_drew BK125.out)
     replace BK126 := AM (blk_drew BK126.out)
     replace HB := AM (below_drew1 HB.out)
     have p128 : 0 ≤ (x6_1 : Int) := od
     have q128 : x6_1 < (l0_0.length : Int) := od
     obtain ⟨ad128, e128, hx128_0, hx128_1, hx128_2⟩ := at_T67 HR0_0.out x6_1 p128 q128
     have hw128_2 := hx128_2
     have hw128_1 := hx128_1
     have hw128_0 := hx128_0
     obtain rfl : ad127 = ad128 := (by injection e128)
     replace hx128_0 := cl HB hx128_0
     replace hx128_1 := cl HB hx128_1
     replace hx128_2 := cl HB hx128_2
     replace p128 := eq_true p128
     replace q128 := eq_true q128
     refine sr 11 (fun w' => w'.cell? ⟨gb126, 0, none⟩ = some (u127000) ∧ w'.cell? ⟨gb124, 0, none⟩ = some (.slice (some ad127) l0_0.length c0_0) ∧ w'.cell? (ad127.add ((x6_1).toNat * 3)) = some (.string ((rd_T67 l0_0 x6_1).f0)) ∧ w'.cell? ⟨(ad127.add ((x6_1).toNat * 3)).block, (ad127.add ((x6_1).toNat * 3)).off + 1, none⟩ = some (.string ((rd_T67 l0_0 x6_1).f1)) ∧ w'.cell? ⟨(ad127.add ((x6_1).toNat * 3)).block, (ad127.add ((x6_1).toNat * 3)).off + 2, none⟩ = some (.int .i64 ((rd_T67 l0_0 x6_1).f2))) [10] ⟨bc BK126 0, bc BK124 0, (cl HB hw128_0), (cl HB hw128_1), (cl HB hw128_2)⟩ (fun hHeld => ?_); refine with_tabW spec_l03Without.tab6 spec_l03Without.bits6 (fun HT_ HW_ => ?_)
     generalize wr.drew = w19 at HO_127000 BK124 BK125 BK126 HB hx128_0 hx128_1 hx128_2 hHeld ⊢
     refine pt 0 23 ?_; refine pt 2 25 ?_; refine pt 4 27 ?_; refine tt 1 24 ?_; refine tt 3 26 ?_; refine pt 5 28 ?_; refine tt 6 29 ?_
     refine ot 7 (some 30) fun K hK => ?_
     refine vl ?_
     refine hK.out _ _ ⟨(blk_cell (blk_alloc BK126.out _) 0).trans rfl, (blk_cell (blk_alloc BK124.out _) 0).trans rfl, (World.cell?_alloc_lt _ _ _ (World.block_lt_of_cell? _ _ ((cl HB hw128_0)))).trans ((cl HB hw128_0)), (World.cell?_alloc_lt _ _ _ (World.block_lt_of_cell? _ _ ((cl HB hw128_1)))).trans ((cl HB hw128_1)), (World.cell?_alloc_lt _ _ _ (World.block_lt_of_cell? _ _ ((cl HB hw128_2)))).trans ((cl HB hw128_2))⟩ (fun hHeld => ?_)
     clear hK K
     refine nr ?_
     refine ot 8 (some 31) fun K hK => ?_
     refine Kd.R_append_step k67 (w0 := w) w.heap.size (by rfl) (.tmp 24) (.tmp 30) 28 67 (.agg #[(.string ⟨#[]⟩), (.string ⟨#[]⟩), (.int .i64 0)]) 40 rfl Try.underlying28 info67 rfl (by decide) (by omega) u127000 x127000_1 (⟨(rd_T67 l0_0 x6_1).f0, (rd_T67 l0_0 x6_1).f1, (rd_T67 l0_0 x6_1).f2⟩ : S67) [.string ((rd_T67 l0_0 x6_1).f0), .string ((rd_T67 l0_0 x6_1).f1), .int .i64 ((rd_T67 l0_0 x6_1).f2)] (fun _ => True) (fun _ => False) rfl rfl ?aP (fun _ hk => hk.elim) ?aF ?aO ?aB ?aS ?aL ?_
     (case aP => exact k67_mkM _ _ _ (⟨(rd_T67 l0_0 x6_1).f0, (rd_T67 l0_0 x6_1).f1, (rd_T67 l0_0 x6_1).f2⟩ : S67))
     (case aB => exact (hS))
     (case aF => exact (fun _ _ => trivial))
     (case aO => exact (by exact HO_127000.out))
     (case aS => exact (below_size (hS)))
     (case aL => have := LMc15.out; omega)
     intro v130 w20 ho hb hg hat
     rw [← Ny129.out] at ho
     replace BK124 := AM (blk_grown (g := gb124) (o := .cells #[.slice (some ad127) l0_0.length c0_0] 30 (0, 0)) (bk BK124) hg (Kd.R_ne HO_127000.out BK124.out (by decide)))
     replace BK125 := AM (blk_grown (g := gb125) (o := .cells #[.slice none 0 0] 30 (0, 0)) (bk BK125) hg (Kd.R_ne HO_127000.out BK125.out (by decide)))
     replace BK126 := AM (blk_grown (g := gb126) (o := .cells #[u127000] 30 (0, 0)) (bk BK126) hg (Kd.R_ne HO_127000.out BK126.out (by decide)))
     replace HB := AM (hb)
     have HO131 := AM (ho)
     clear HO_127000
     clear ho hb hg hat
     obtain ⟨Ao21, co21, eo21⟩ := Kd.R_slice HO131.out
     (first | subst eo21 | (injection eo21 with f1_ f2_ f3_; have f4_ := f1_.symm; have f5_ := f3_.symm; clear f1_ f2_ f3_; subst f4_; subst f5_))
     refine hK.out _ _ ⟨bc BK126 0, bc BK124 0, (cl HB hw128_0), (cl HB hw128_1), (cl HB hw128_2)⟩ (fun hHeld => ?_)
     clear hK K
     refine nr ?_
     refine pt 9 32 ?_
     refine zt 10 none fun K hK => ?_
     have hs22 : w20.cell? ⟨gb126, 0, none⟩ = some (u127000) := bc BK126 0
     have hfs22 := bz BK126 0
     have hns22_0 := NB124_126.out
     have hns22_1 := NB125_126.out
     have hms22_0 := NB126_124.out
     have hms22_1 := NB126_125.out
     refine sk ?_
     refine hK.out _ _ ?_
     clear hK K
     refine dn ?_
     try go_wp2
     go_roundg k1
     case measure => have := HK1.out; omega
     case rel => exact ⟨(wrap64 (x6_1 + 1)), (y129), (.slice Ao21 y129.length co21), sf, H', ⟨by have := HK1.out; omega⟩, ⟨by exact Kd.R_mono (Kd.R_far (p := ⟨gb126, 0, none⟩) (Kd.R_types HO131.out BK126.out (by decide)) (fun _ hk => hk.2) (.slice Ao21 y129.length co21)) (fun _ hk => trivial)⟩, ⟨be⟩, ⟨be⟩, ⟨bp #[u127000] 0⟩, ⟨hS⟩⟩
    rw [if_neg c15] at H
    exact absurd H (by simp)
   rw [if_neg c10] at H
   exact absurd H (by simp)
  rw [if_neg c9] at H
  have c9b0 : decide (x6_1 < (l0_0.length : Int)) = false := decide_eq_false c9
  clear c9
  obtain rfl := Option.some.inj H
  have hnb23 := NB124_125.out
  have hnc23 := NB125_124.out
  have hnb24 := NB124_126.out
  have hnc24 := NB126_124.out
  have hcz25_0 := bv BK124 0 (.slice A0_0 l0_0.length c0_0)
  have hfz25_0 := bz BK124 0
  have hnb26 := NB126_125.out
  have hnc26 := NB125_126.out
  have hcz27_0 := bv BK126 0 (u127000)
  have hfz27_0 := bz BK126 0
  obtain ⟨Ao28, co28, eo28⟩ := Kd.R_slice HO_127000.out
  subst eo28
  have hcz29_0 := bv BK125 0 (.slice none 0 0)
  have hfz29_0 := bz BK125 0
  go_wp2
  refine bodyPost_ret (results_cell_row rfl _ _ gb125 30 #[.slice Ao28 x127000_1.length co28] (0, 0) _ rfl (bp #[.slice none 0 0] 0) Try.underlying30 rfl (by kernel_rfl)) rfl ?_
  exact ⟨_, er, by exact Kd.R_mono (Kd.R_far (p := ⟨gb125, 0, none⟩) (Kd.R_types HO_127000.out BK125.out (by decide)) (fun _ hk => hk.2) (.slice Ao28 x127000_1.length co28)) (fun _ hk => trivial), hS⟩

end Go.Proofs.Ytnkldnkolcighaa.XFnActs
