/- What the functions of a law compute, and that their calls compute it: written by a program of this session (xprint.py), which turns the kit print at a few places. -/
import Derived.Test.YtnkldnkolcighaaXFnActsx0
import Derived.Test.YtnkldnkolcighaaXFnActsx4
import Derived.Test.YtnkldnkolcighaaXFnActsx5
namespace Go.Proofs.Ytnkldnkolcighaa.XFnActs
open Go.RowKit Go.Proofs.YtnkldnkolcighaaQ.PrintWords Go.Proofs.YtnkldnkolcighaaQ.PrintLast Go.Proofs.YtnkldnkolcighaaQ.PrintMore
attribute [local go_sem] max2_int min2_int max_two min_two max_three min_three max_four min_four str_geq str_gtr   -- for this text's walks alone
set_option linter.unusedVariables false
set_option linter.unusedSimpArgs false

/-! ### spec_DoAct: function 17 -/
mutual
def spec_DoAct.j0 : Nat → Bool → List (S67) → Int → ByteArray → ByteArray → ByteArray → Option ((List (S67)) × Bool)
 | 0, _, _, _, _, _, _ => none
 | k + 1, x37, x133000, x134000, x134001, x134002, x134003 => if x37 = true then (some (([] : List (S67)), false)) else ((spec_l03At.f k x133000 x134001).bind fun t137 => (if t137 ≥ 0 then (if 0 ≤ t137 then (if t137 < (x133000.length : Int) then (spec_DoAct.j1 k t137 x133000 x134000 x134001 x134002 x134003 ((rd_T67 x133000 t137).f0) ((rd_T67 x133000 t137).f1) ((rd_T67 x133000 t137).f2)) else (none)) else (none)) else (spec_DoAct.j1 k t137 x133000 x134000 x134001 x134002 x134003 x134001 (⟨#[]⟩ : ByteArray) 0)))
def spec_DoAct.j1 : Nat → Int → List (S67) → Int → ByteArray → ByteArray → ByteArray → ByteArray → ByteArray → Int → Option ((List (S67)) × Bool)
 | 0, _, _, _, _, _, _, _, _, _ => none
 | k + 1, x6, x133000, x134000, x134001, x134002, x134003, x139000, x139001, x139002 => if x134000 = 1 then (if x139001.size + x134002.size ≤ 9223372036854775807 then ((spec_l03Put.f k x133000 x139000 (x139001 ++ x134002) x139002).bind fun t141 => ((spec_DiskOk.f k t141).bind fun t144 => (if t144 = true then (some (t141, true)) else (some (([] : List (S67)), false))))) else (none)) else (if x6 < 0 then (some (([] : List (S67)), false)) else (if x134000 = 2 then ((spec_l03Put.f k x133000 x139000 x139001 (x139001.size : Int)).bind fun t145 => ((spec_DiskOk.f k t145).bind fun t148 => (if t148 = true then (some (t145, true)) else (some (([] : List (S67)), false))))) else (if x134000 = 3 then (if x139002 < (x139001.size : Int) then (spec_DoAct.j2 k true x133000 x134000 x134001 x134002 x134003 x139000 x139001 x139002) else (if x134003.toList = x134001.toList then (spec_DoAct.j2 k true x133000 x134000 x134001 x134002 x134003 x139000 x139001 x139002) else ((spec_l03Name.f x134003).bind fun t149 => (spec_DoAct.j2 k (!t149) x133000 x134000 x134001 x134002 x134003 x139000 x139001 x139002)))) else (if x134000 = 4 then ((spec_l03Without.f k x133000 x134001).bind fun t157 => ((spec_DiskOk.f k t157).bind fun t160 => (if t160 = true then (some (t157, true)) else (some (([] : List (S67)), false))))) else (some (([] : List (S67)), false))))))
def spec_DoAct.j2 : Nat → Bool → List (S67) → Int → ByteArray → ByteArray → ByteArray → ByteArray → ByteArray → Int → Option ((List (S67)) × Bool)
 | 0, _, _, _, _, _, _, _, _, _ => none
 | k + 1, x105, x133000, x134000, x134001, x134002, x134003, x139000, x139001, x139002 => if x105 = true then (some (([] : List (S67)), false)) else ((spec_l03Without.f k x133000 x134001).bind fun t150 => ((spec_l03Put.f k t150 x134003 x139001 x139002).bind fun t153 => ((spec_DiskOk.f k t153).bind fun t156 => (if t156 = true then (some (t153, true)) else (some (([] : List (S67)), false))))))
end
def spec_DoAct.f (k : Nat) (l0_0 : List (S67)) (a1_0 : Int) (a1_1 : ByteArray) (a1_2 : ByteArray) (a1_3 : ByteArray) : Option ((List (S67)) × Bool) := (spec_DiskOk.f k l0_0).bind fun t135 => (if t135 = true then ((spec_l03Name.f a1_1).bind fun t136 => (if t136 = true then (if a1_0 = 3 then (if a1_0 = 1 then (spec_DoAct.j0 k false l0_0 a1_0 a1_1 a1_2 a1_3) else (spec_DoAct.j0 k (a1_2.toList != ([] : List UInt8)) l0_0 a1_0 a1_1 a1_2 a1_3)) else (if a1_3.toList = ([] : List UInt8) then (if a1_0 = 1 then (spec_DoAct.j0 k false l0_0 a1_0 a1_1 a1_2 a1_3) else (spec_DoAct.j0 k (a1_2.toList != ([] : List UInt8)) l0_0 a1_0 a1_1 a1_2 a1_3)) else (spec_DoAct.j0 k true l0_0 a1_0 a1_1 a1_2 a1_3))) else (spec_DoAct.j0 k true l0_0 a1_0 a1_1 a1_2 a1_3))) else (spec_DoAct.j0 k true l0_0 a1_0 a1_1 a1_2 a1_3))
theorem spec_DoAct.mono_l : ∀ k, (∀ y0 y1 y2 y3 y4 y5, LeO (spec_DoAct.j0 k y0 y1 y2 y3 y4 y5) (spec_DoAct.j0 (k + 1) y0 y1 y2 y3 y4 y5)) ∧ (∀ y0 y1 y2 y3 y4 y5 y6 y7 y8, LeO (spec_DoAct.j1 k y0 y1 y2 y3 y4 y5 y6 y7 y8) (spec_DoAct.j1 (k + 1) y0 y1 y2 y3 y4 y5 y6 y7 y8)) ∧ (∀ y0 y1 y2 y3 y4 y5 y6 y7 y8, LeO (spec_DoAct.j2 k y0 y1 y2 y3 y4 y5 y6 y7 y8) (spec_DoAct.j2 (k + 1) y0 y1 y2 y3 y4 y5 y6 y7 y8))
 | 0 => ⟨fun _ _ _ _ _ _ r h => by simp [spec_DoAct.j0] at h, fun _ _ _ _ _ _ _ _ _ r h => by simp [spec_DoAct.j1] at h, fun _ _ _ _ _ _ _ _ _ r h => by simp [spec_DoAct.j2] at h⟩
 | k + 1 => by
  obtain ⟨ih0, ih1, ih2⟩ := spec_DoAct.mono_l k
  refine ⟨?_, ?_, ?_⟩
  ·intro y0 y1 y2 y3 y4 y5
   unfold spec_DoAct.j0
   repeat' first
   | (with_reducible exact LeO.refl _)
   | (with_reducible refine LeO.ite ?_ ?_)
   | (with_reducible refine LeO.bind ?_ (fun _ => ?_))
   | exact ih0 _ _ _ _ _ _
   | exact ih1 _ _ _ _ _ _ _ _ _
   | exact ih2 _ _ _ _ _ _ _ _ _
   | exact spec_DiskOk.mono _ _
   | exact spec_l03At.mono _ _ _
   | exact spec_l03Put.mono _ _ _ _ _
   | exact spec_l03Without.mono _ _ _
   | exact LeO.none _
   | refine LeO.ite ?_ ?_
   | refine LeO.bind ?_ (fun _ => ?_)
  ·intro y0 y1 y2 y3 y4 y5 y6 y7 y8
   unfold spec_DoAct.j1
   repeat' first
   | (with_reducible exact LeO.refl _)
   | (with_reducible refine LeO.ite ?_ ?_)
   | (with_reducible refine LeO.bind ?_ (fun _ => ?_))
   | exact ih0 _ _ _ _ _ _
   | exact ih1 _ _ _ _ _ _ _ _ _
   | exact ih2 _ _ _ _ _ _ _ _ _
   | exact spec_DiskOk.mono _ _
   | exact spec_l03At.mono _ _ _
   | exact spec_l03Put.mono _ _ _ _ _
   | exact spec_l03Without.mono _ _ _
   | exact LeO.none _
   | refine LeO.ite ?_ ?_
   | refine LeO.bind ?_ (fun _ => ?_)
  intro y0 y1 y2 y3 y4 y5 y6 y7 y8
  unfold spec_DoAct.j2
  repeat' first
  | (with_reducible exact LeO.refl _)
  | (with_reducible refine LeO.ite ?_ ?_)
  | (with_reducible refine LeO.bind ?_ (fun _ => ?_))
  | exact ih0 _ _ _ _ _ _
  | exact ih1 _ _ _ _ _ _ _ _ _
  | exact ih2 _ _ _ _ _ _ _ _ _
  | exact spec_DiskOk.mono _ _
  | exact spec_l03At.mono _ _ _
  | exact spec_l03Put.mono _ _ _ _ _
  | exact spec_l03Without.mono _ _ _
  | exact LeO.none _
  | refine LeO.ite ?_ ?_
  | refine LeO.bind ?_ (fun _ => ?_)
theorem spec_DoAct.mono : ∀ a0 a1 a2 a3 a4 k, LeO (spec_DoAct.f k a0 a1 a2 a3 a4) (spec_DoAct.f (k + 1) a0 a1 a2 a3 a4) := by
 intro a0 a1 a2 a3 a4 k
 obtain ⟨ih0, ih1, ih2⟩ := spec_DoAct.mono_l k
 unfold spec_DoAct.f
 repeat' first
   | (with_reducible exact LeO.refl _)
   | (with_reducible refine LeO.ite ?_ ?_)
   | (with_reducible refine LeO.bind ?_ (fun _ => ?_))
   | exact ih0 _ _ _ _ _ _
   | exact ih1 _ _ _ _ _ _ _ _ _
   | exact ih2 _ _ _ _ _ _ _ _ _
   | exact spec_DiskOk.mono _ _
   | exact spec_l03At.mono _ _ _
   | exact spec_l03Put.mono _ _ _ _ _
   | exact spec_l03Without.mono _ _ _
   | exact LeO.none _
   | refine LeO.ite ?_ ?_
   | refine LeO.bind ?_ (fun _ => ?_)
set_option maxHeartbeats 8000000 in
set_option maxRecDepth 100000 in
theorem spec_DoAct.calls (k : Nat) (A0_0 : Option Addr) (c0_0 : Nat) (l0_0 : List (S67)) (a1_0 : Int) (a1_1 : ByteArray) (a1_2 : ByteArray) (a1_3 : ByteArray) (r1 : List (S67)) (r2 : Bool) (w : World) (hr0_0 : Kd.C k67 w A0_0 l0_0.length l0_0) (hc0_0 : l0_0.length ≤ c0_0) (h : spec_DoAct.f k l0_0 a1_0 a1_1 a1_2 a1_3 = some (r1, r2)) :
  Calls Try.prog 17 #[.agg #[.slice A0_0 l0_0.length c0_0], .agg #[.int .i64 a1_0, .string a1_1, .string a1_2, .string a1_3]] w fun e w' => ∃ v0_ : Value, e = .returned (.tuple #[.agg #[v0_], .bool r2]) ∧ Kd.R k67 67 w' w.heap.size (fun _ => True) v0_ r1 ∧ Below w.heap.size w w' := by
 have hu30 := Try.underlying30
 have hu41 := Try.underlying41
 have hu67 := Try.underlying67
 have HR0_0 := AM hr0_0
 have HC0_0 := AM hc0_0
 clear hr0_0 hc0_0
 have HB := AM (Below.refl w.heap.size w)
 have H : ((spec_DiskOk.f k l0_0).bind fun t135 => (if t135 = true then ((spec_l03Name.f a1_1).bind fun t136 => (if t136 = true then (if a1_0 = 3 then (if a1_0 = 1 then (spec_DoAct.j0 k false l0_0 a1_0 a1_1 a1_2 a1_3) else (spec_DoAct.j0 k (a1_2.toList != ([] : List UInt8)) l0_0 a1_0 a1_1 a1_2 a1_3)) else (if a1_3.toList = ([] : List UInt8) then (if a1_0 = 1 then (spec_DoAct.j0 k false l0_0 a1_0 a1_1 a1_2 a1_3) else (spec_DoAct.j0 k (a1_2.toList != ([] : List UInt8)) l0_0 a1_0 a1_1 a1_2 a1_3)) else (spec_DoAct.j0 k true l0_0 a1_0 a1_1 a1_2 a1_3))) else (spec_DoAct.j0 k true l0_0 a1_0 a1_1 a1_2 a1_3))) else (spec_DoAct.j0 k true l0_0 a1_0 a1_1 a1_2 a1_3))) = some (r1, r2) := h
 clear h
 have HC3 := AM H
 clear H
 go_enter Try.func17, Try.ntmps17
 go_upto_region 1 with (first | ((with_reducible refine gd 2 rfl ?_); refine bx (N := 2) (cs := #[.slice A0_0 l0_0.length c0_0]) (t := 30) ?_; intro gb132 hg w4 hbox hb; have BK132 := AM (hbox); have GW132 := AM (bs hg HB); have GE132 := AM (bs hg HB); replace HB := bq HB hb; clear hb hbox hg) | ((with_reducible refine gd 3 rfl ?_); refine bx (N := 3) (cs := #[.int .i64 a1_0, .string a1_1, .string a1_2, .string a1_3]) (t := 41) ?_; intro gb133 hg w5 hbox hb; have BK133 := AM (hbox); have GW133 := AM (bt hg hS); have GE133 := AM (bt hg hS); replace HB := AM (below_step (hS) hb); have NB132_133 := AM (nl hg (bk BK132)); have NB133_132 := AM (ng hg (bk BK132)); replace BK132 := bw BK132 hb; clear hb hbox hg) | ((with_reducible refine gd 4 rfl ?_); refine bx (N := 4) (cs := #[.slice none 0 0]) (t := 30) ?_; intro gb134 hg w6 hbox hb; have BK134 := AM (hbox); have GW134 := AM (bt hg hS); have GE134 := AM (bt hg hS); replace HB := AM (below_step (hS) hb); have NB132_134 := AM (nl hg (bk BK132)); have NB134_132 := AM (ng hg (bk BK132)); replace BK132 := bw BK132 hb; have NB133_134 := AM (nl hg (bk BK133)); have NB134_133 := AM (ng hg (bk BK133)); replace BK133 := bw BK133 hb; clear hb hbox hg))
 (try simp only [Act.put, qT, q0, qS])
 go_cut [37] (fun v37 wc => ∃ (kq : Nat) (x37_2 : Bool), v37 = .bool x37_2 ∧ Aside0 (spec_DoAct.j0 kq x37_2 l0_0 a1_0 a1_1 a1_2 a1_3 = some (r1, r2)) ∧ Aside0 (kq ≤ k) ∧ Aside0 (wc.heap[gb132]? = some (.cells #[(.slice A0_0 l0_0.length c0_0)] 30 (0, 0))) ∧ Aside0 (wc.heap[gb133]? = some (.cells #[.int .i64 a1_0, .string a1_1, .string a1_2, .string a1_3] 41 (0, 0))) ∧ Aside0 (wc.heap[gb134]? = some (.cells #[(.slice none 0 0)] 30 (0, 0))) ∧ Aside0 (Below w.heap.size w wc))
 case first =>
  have H := HC3.out
  clear HC3
  replace H := bm H
  obtain ⟨t135, A70, H⟩ := H
  replace H : (if t135 = true then ((spec_l03Name.f a1_1).bind fun t136 => (if t136 = true then (if a1_0 = 3 then (if a1_0 = 1 then (spec_DoAct.j0 k false l0_0 a1_0 a1_1 a1_2 a1_3) else (spec_DoAct.j0 k (a1_2.toList != ([] : List UInt8)) l0_0 a1_0 a1_1 a1_2 a1_3)) else (if a1_3.toList = ([] : List UInt8) then (if a1_0 = 1 then (spec_DoAct.j0 k false l0_0 a1_0 a1_1 a1_2 a1_3) else (spec_DoAct.j0 k (a1_2.toList != ([] : List UInt8)) l0_0 a1_0 a1_1 a1_2 a1_3)) else (spec_DoAct.j0 k true l0_0 a1_0 a1_1 a1_2 a1_3))) else (spec_DoAct.j0 k true l0_0 a1_0 a1_1 a1_2 a1_3))) else (spec_DoAct.j0 k true l0_0 a1_0 a1_1 a1_2 a1_3)) = some (r1, r2) := H
  have A7 := AM A70
  clear A70
  by_cases c8 : t135 = true
  ·subst c8
   have H1 : ((spec_l03Name.f a1_1).bind fun t136 => (if t136 = true then (if a1_0 = 3 then (if a1_0 = 1 then (spec_DoAct.j0 k false l0_0 a1_0 a1_1 a1_2 a1_3) else (spec_DoAct.j0 k (a1_2.toList != ([] : List UInt8)) l0_0 a1_0 a1_1 a1_2 a1_3)) else (if a1_3.toList = ([] : List UInt8) then (if a1_0 = 1 then (spec_DoAct.j0 k false l0_0 a1_0 a1_1 a1_2 a1_3) else (spec_DoAct.j0 k (a1_2.toList != ([] : List UInt8)) l0_0 a1_0 a1_1 a1_2 a1_3)) else (spec_DoAct.j0 k true l0_0 a1_0 a1_1 a1_2 a1_3))) else (spec_DoAct.j0 k true l0_0 a1_0 a1_1 a1_2 a1_3))) = some (r1, r2) := by rw [if_pos rfl] at H; exact H
   clear H
   have H := H1
   clear H1
   replace H := bm H
   obtain ⟨t136, A90, H⟩ := H
   replace H : (if t136 = true then (if a1_0 = 3 then (if a1_0 = 1 then (spec_DoAct.j0 k false l0_0 a1_0 a1_1 a1_2 a1_3) else (spec_DoAct.j0 k (a1_2.toList != ([] : List UInt8)) l0_0 a1_0 a1_1 a1_2 a1_3)) else (if a1_3.toList = ([] : List UInt8) then (if a1_0 = 1 then (spec_DoAct.j0 k false l0_0 a1_0 a1_1 a1_2 a1_3) else (spec_DoAct.j0 k (a1_2.toList != ([] : List UInt8)) l0_0 a1_0 a1_1 a1_2 a1_3)) else (spec_DoAct.j0 k true l0_0 a1_0 a1_1 a1_2 a1_3))) else (spec_DoAct.j0 k true l0_0 a1_0 a1_1 a1_2 a1_3)) = some (r1, r2) := H
   have A9 := AM A90
   clear A90
   by_cases c10 : t136 = true
   ·subst c10
    have H1 : (if a1_0 = 3 then (if a1_0 = 1 then (spec_DoAct.j0 k false l0_0 a1_0 a1_1 a1_2 a1_3) else (spec_DoAct.j0 k (a1_2.toList != ([] : List UInt8)) l0_0 a1_0 a1_1 a1_2 a1_3)) else (if a1_3.toList = ([] : List UInt8) then (if a1_0 = 1 then (spec_DoAct.j0 k false l0_0 a1_0 a1_1 a1_2 a1_3) else (spec_DoAct.j0 k (a1_2.toList != ([] : List UInt8)) l0_0 a1_0 a1_1 a1_2 a1_3)) else (spec_DoAct.j0 k true l0_0 a1_0 a1_1 a1_2 a1_3))) = some (r1, r2) := by rw [if_pos rfl] at H; exact H
    clear H
    have H := H1
    clear H1
    by_cases c11 : a1_0 = 3
    ·rw [if_pos c11] at H
     have c11b0 : (a1_0 == 3) = true := beq_iff_eq.mpr c11
     have c11b1 : (a1_0 != 3) = false := bne_eq_false_iff_eq.mpr c11
     clear c11
     (first | rw [c11b0] | (simp only [i64_w, i32_w]; rw [c11b0]) | rw [c11b1] | skip)
     by_cases c12 : a1_0 = 1
     ·rw [if_pos c12] at H
      have c12b0 : (a1_0 == 1) = true := beq_iff_eq.mpr c12
      have c12b1 : (a1_0 != 1) = false := bne_eq_false_iff_eq.mpr c12
      clear c12
      have H' := AM H
      clear H
      have hnb13 := NB132_133.out
      have hnc13 := NB133_132.out
      have hnb14 := NB132_134.out
      have hnc14 := NB134_132.out
      have hcz15_0 := bv BK132 0 (.slice A0_0 l0_0.length c0_0)
      have hfz15_0 := bz BK132 0
      go_wp2_with (first | ((with_reducible refine gc 41 rfl ?_); refine gl 10 Try.func41 #[.agg #[.slice A0_0 l0_0.length c0_0]] ?_; (with_reducible refine (spec_DiskOk.calls k _ _ l0_0 true _ ?side1 ?side2 A7.out).mono ?_); (case side1 => repeat (first | exact (Kd.C_below HR0_0.out HB.out) | (with_reducible first | refine cA ?_ _ | refine cN ?_ _ | refine cD ?_))); (case side2 => exact HC0_0.out); rintro e w16 ⟨rfl, hb⟩; refine ⟨_, rfl, ?_⟩; replace BK132 := bw BK132 hb; replace BK133 := bw BK133 hb; replace BK134 := bw BK134 hb; replace HB := AM (below_step (hS) hb); (try clear hb); have hnb17 := NB133_134.out; have hnc17 := NB134_133.out; have hcz18_0 := bv BK133 0 (.int .i64 a1_0); have hcz18_1 := bv BK133 1 (.string a1_1); have hcz18_2 := bv BK133 2 (.string a1_2); have hcz18_3 := bv BK133 3 (.string a1_3); have hfz18_0 := bz BK133 0; have hfz18_1 := bz BK133 1; have hfz18_2 := bz BK133 2; have hfz18_3 := bz BK133 3) | (go_at_call 45; (with_reducible refine (spec_l03Name.calls a1_1 true _ A9.out).mono ?_); rintro e w' ⟨rfl, ⟨nd, rfl⟩⟩))
      go_meet
      case rel => exact ⟨_, (false), (by first | rfl | (simp; done) | (simp [*]; done) | (generalize ByteArray.toList a1_2 = q_; cases q_ <;> first | rfl | (simp; done))), H', ⟨by first | omega | exact Nat.le_refl _⟩, ⟨bk BK132⟩, ⟨bk BK133⟩, ⟨bk BK134⟩, ⟨hS⟩⟩
     rw [if_neg c12] at H
     have c12b0 : (a1_0 == 1) = false := beq_eq_false_iff_ne.mpr c12
     have c12b1 : (a1_0 != 1) = true := bne_iff_ne.mpr c12
     have H' := AM H
     clear H
     have hnb19 := NB132_133.out
     have hnc19 := NB133_132.out
     have hnb20 := NB132_134.out
     have hnc20 := NB134_132.out
     have hcz21_0 := bv BK132 0 (.slice A0_0 l0_0.length c0_0)
     have hfz21_0 := bz BK132 0
     go_wp2_with (first | ((with_reducible refine gc 41 rfl ?_); refine gl 10 Try.func41 #[.agg #[.slice A0_0 l0_0.length c0_0]] ?_; (with_reducible refine (spec_DiskOk.calls k _ _ l0_0 true _ ?side1 ?side2 A7.out).mono ?_); (case side1 => repeat (first | exact (Kd.C_below HR0_0.out HB.out) | (with_reducible first | refine cA ?_ _ | refine cN ?_ _ | refine cD ?_))); (case side2 => exact HC0_0.out); rintro e w22 ⟨rfl, hb⟩; refine ⟨_, rfl, ?_⟩; replace BK132 := bw BK132 hb; replace BK133 := bw BK133 hb; replace BK134 := bw BK134 hb; replace HB := AM (below_step (hS) hb); (try clear hb); have hnb23 := NB133_134.out; have hnc23 := NB134_133.out; have hcz24_0 := bv BK133 0 (.int .i64 a1_0); have hcz24_1 := bv BK133 1 (.string a1_1); have hcz24_2 := bv BK133 2 (.string a1_2); have hcz24_3 := bv BK133 3 (.string a1_3); have hfz24_0 := bz BK133 0; have hfz24_1 := bz BK133 1; have hfz24_2 := bz BK133 2; have hfz24_3 := bz BK133 3) | (go_at_call 45; (with_reducible refine (spec_l03Name.calls a1_1 true _ A9.out).mono ?_); rintro e w' ⟨rfl, ⟨nd, rfl⟩⟩))
     go_meet
     case rel => exact ⟨_, ((a1_2.toList != ([] : List UInt8))), (by first | rfl | (simp; done) | (simp [*]; done) | (generalize ByteArray.toList a1_2 = q_; cases q_ <;> first | rfl | (simp; done))), H', ⟨by first | omega | exact Nat.le_refl _⟩, ⟨bk BK132⟩, ⟨bk BK133⟩, ⟨bk BK134⟩, ⟨hS⟩⟩
    rw [if_neg c11] at H
    have c11b0 : (a1_0 == 3) = false := beq_eq_false_iff_ne.mpr c11
    have c11b1 : (a1_0 != 3) = true := bne_iff_ne.mpr c11
    (first | rw [c11b0] | (simp only [i64_w, i32_w]; rw [c11b0]) | rw [c11b1] | skip)
    by_cases c25 : a1_3.toList = ([] : List UInt8)
    ·rw [if_pos c25] at H
     have c25b0 : (a1_3.toList == ([] : List UInt8)) = true := beq_iff_eq.mpr c25
     have c25b1 : (a1_3.toList != ([] : List UInt8)) = false := bne_eq_false_iff_eq.mpr c25
     clear c25
     by_cases c26 : a1_0 = 1
     ·rw [if_pos c26] at H
      have c26b0 : (a1_0 == 1) = true := beq_iff_eq.mpr c26
      have c26b1 : (a1_0 != 1) = false := bne_eq_false_iff_eq.mpr c26
      clear c26
      have H' := AM H
      clear H
      have hnb27 := NB132_133.out
      have hnc27 := NB133_132.out
      have hnb28 := NB132_134.out
      have hnc28 := NB134_132.out
      have hcz29_0 := bv BK132 0 (.slice A0_0 l0_0.length c0_0)
      have hfz29_0 := bz BK132 0
      go_wp2_with (first | ((with_reducible refine gc 41 rfl ?_); refine gl 10 Try.func41 #[.agg #[.slice A0_0 l0_0.length c0_0]] ?_; (with_reducible refine (spec_DiskOk.calls k _ _ l0_0 true _ ?side1 ?side2 A7.out).mono ?_); (case side1 => repeat (first | exact (Kd.C_below HR0_0.out HB.out) | (with_reducible first | refine cA ?_ _ | refine cN ?_ _ | refine cD ?_))); (case side2 => exact HC0_0.out); rintro e w30 ⟨rfl, hb⟩; refine ⟨_, rfl, ?_⟩; replace BK132 := bw BK132 hb; replace BK133 := bw BK133 hb; replace BK134 := bw BK134 hb; replace HB := AM (below_step (hS) hb); (try clear hb); have hnb31 := NB133_134.out; have hnc31 := NB134_133.out; have hcz32_0 := bv BK133 0 (.int .i64 a1_0); have hcz32_1 := bv BK133 1 (.string a1_1); have hcz32_2 := bv BK133 2 (.string a1_2); have hcz32_3 := bv BK133 3 (.string a1_3); have hfz32_0 := bz BK133 0; have hfz32_1 := bz BK133 1; have hfz32_2 := bz BK133 2; have hfz32_3 := bz BK133 3) | (go_at_call 45; (with_reducible refine (spec_l03Name.calls a1_1 true _ A9.out).mono ?_); rintro e w' ⟨rfl, ⟨nd, rfl⟩⟩))
      go_meet
      case rel => exact ⟨_, (false), (by first | rfl | (simp; done) | (simp [*]; done) | (generalize ByteArray.toList a1_2 = q_; cases q_ <;> first | rfl | (simp; done))), H', ⟨by first | omega | exact Nat.le_refl _⟩, ⟨bk BK132⟩, ⟨bk BK133⟩, ⟨bk BK134⟩, ⟨hS⟩⟩
     rw [if_neg c26] at H
     have c26b0 : (a1_0 == 1) = false := beq_eq_false_iff_ne.mpr c26
     have c26b1 : (a1_0 != 1) = true := bne_iff_ne.mpr c26
     have H' := AM H
     clear H
     have hnb33 := NB132_133.out
     have hnc33 := NB133_132.out
     have hnb34 := NB132_134.out
     have hnc34 := NB134_132.out
     have hcz35_0 := bv BK132 0 (.slice A0_0 l0_0.length c0_0)
     have hfz35_0 := bz BK132 0
     go_wp2_with (first | ((with_reducible refine gc 41 rfl ?_); refine gl 10 Try.func41 #[.agg #[.slice A0_0 l0_0.length c0_0]] ?_; (with_reducible refine (spec_DiskOk.calls k _ _ l0_0 true _ ?side1 ?side2 A7.out).mono ?_); (case side1 => repeat (first | exact (Kd.C_below HR0_0.out HB.out) | (with_reducible first | refine cA ?_ _ | refine cN ?_ _ | refine cD ?_))); (case side2 => exact HC0_0.out); rintro e w36 ⟨rfl, hb⟩; refine ⟨_, rfl, ?_⟩; replace BK132 := bw BK132 hb; replace BK133 := bw BK133 hb; replace BK134 := bw BK134 hb; replace HB := AM (below_step (hS) hb); (try clear hb); have hnb37 := NB133_134.out; have hnc37 := NB134_133.out; have hcz38_0 := bv BK133 0 (.int .i64 a1_0); have hcz38_1 := bv BK133 1 (.string a1_1); have hcz38_2 := bv BK133 2 (.string a1_2); have hcz38_3 := bv BK133 3 (.string a1_3); have hfz38_0 := bz BK133 0; have hfz38_1 := bz BK133 1; have hfz38_2 := bz BK133 2; have hfz38_3 := bz BK133 3) | (go_at_call 45; (with_reducible refine (spec_l03Name.calls a1_1 true _ A9.out).mono ?_); rintro e w' ⟨rfl, ⟨nd, rfl⟩⟩))
     go_meet
     case rel => exact ⟨_, ((a1_2.toList != ([] : List UInt8))), (by first | rfl | (simp; done) | (simp [*]; done) | (generalize ByteArray.toList a1_2 = q_; cases q_ <;> first | rfl | (simp; done))), H', ⟨by first | omega | exact Nat.le_refl _⟩, ⟨bk BK132⟩, ⟨bk BK133⟩, ⟨bk BK134⟩, ⟨hS⟩⟩
    rw [if_neg c25] at H
    have c25b0 : (a1_3.toList == ([] : List UInt8)) = false := beq_eq_false_iff_ne.mpr c25
    have c25b1 : (a1_3.toList != ([] : List UInt8)) = true := bne_iff_ne.mpr c25
    have H' := AM H
    clear H
    have hnb39 := NB132_133.out
    have hnc39 := NB133_132.out
    have hnb40 := NB132_134.out
    have hnc40 := NB134_132.out
    have hcz41_0 := bv BK132 0 (.slice A0_0 l0_0.length c0_0)
    have hfz41_0 := bz BK132 0
    go_wp2_with (first | ((with_reducible refine gc 41 rfl ?_); refine gl 10 Try.func41 #[.agg #[.slice A0_0 l0_0.length c0_0]] ?_; (with_reducible refine (spec_DiskOk.calls k _ _ l0_0 true _ ?side1 ?side2 A7.out).mono ?_); (case side1 => repeat (first | exact (Kd.C_below HR0_0.out HB.out) | (with_reducible first | refine cA ?_ _ | refine cN ?_ _ | refine cD ?_))); (case side2 => exact HC0_0.out); rintro e w42 ⟨rfl, hb⟩; refine ⟨_, rfl, ?_⟩; replace BK132 := bw BK132 hb; replace BK133 := bw BK133 hb; replace BK134 := bw BK134 hb; replace HB := AM (below_step (hS) hb); (try clear hb); have hnb43 := NB133_134.out; have hnc43 := NB134_133.out; have hcz44_0 := bv BK133 0 (.int .i64 a1_0); have hcz44_1 := bv BK133 1 (.string a1_1); have hcz44_2 := bv BK133 2 (.string a1_2); have hcz44_3 := bv BK133 3 (.string a1_3); have hfz44_0 := bz BK133 0; have hfz44_1 := bz BK133 1; have hfz44_2 := bz BK133 2; have hfz44_3 := bz BK133 3) | (go_at_call 45; (with_reducible refine (spec_l03Name.calls a1_1 true _ A9.out).mono ?_); rintro e w' ⟨rfl, ⟨nd, rfl⟩⟩))
    go_meet
    case rel => exact ⟨_, (true), (by first | rfl | (simp; done) | (simp [*]; done) | (generalize ByteArray.toList a1_2 = q_; cases q_ <;> first | rfl | (simp; done))), H', ⟨by first | omega | exact Nat.le_refl _⟩, ⟨bk BK132⟩, ⟨bk BK133⟩, ⟨bk BK134⟩, ⟨hS⟩⟩
   replace c10 := Bool.eq_false_iff.mpr c10
   subst c10
   have H1 : (spec_DoAct.j0 k true l0_0 a1_0 a1_1 a1_2 a1_3) = some (r1, r2) := by rw [if_neg (show ¬ (false = true) by decide)] at H; exact H
   clear H
   have H := H1
   clear H1
   have H' := AM H
   clear H
   have hnb45 := NB132_133.out
   have hnc45 := NB133_132.out
   have hnb46 := NB132_134.out
   have hnc46 := NB134_132.out
   have hcz47_0 := bv BK132 0 (.slice A0_0 l0_0.length c0_0)
   have hfz47_0 := bz BK132 0
   go_wp2_with (first | ((with_reducible refine gc 41 rfl ?_); refine gl 10 Try.func41 #[.agg #[.slice A0_0 l0_0.length c0_0]] ?_; (with_reducible refine (spec_DiskOk.calls k _ _ l0_0 true _ ?side1 ?side2 A7.out).mono ?_); (case side1 => repeat (first | exact (Kd.C_below HR0_0.out HB.out) | (with_reducible first | refine cA ?_ _ | refine cN ?_ _ | refine cD ?_))); (case side2 => exact HC0_0.out); rintro e w48 ⟨rfl, hb⟩; refine ⟨_, rfl, ?_⟩; replace BK132 := bw BK132 hb; replace BK133 := bw BK133 hb; replace BK134 := bw BK134 hb; replace HB := AM (below_step (hS) hb); (try clear hb); have hnb49 := NB133_134.out; have hnc49 := NB134_133.out; have hcz50_0 := bv BK133 0 (.int .i64 a1_0); have hcz50_1 := bv BK133 1 (.string a1_1); have hcz50_2 := bv BK133 2 (.string a1_2); have hcz50_3 := bv BK133 3 (.string a1_3); have hfz50_0 := bz BK133 0; have hfz50_1 := bz BK133 1; have hfz50_2 := bz BK133 2; have hfz50_3 := bz BK133 3) | (go_at_call 45; (with_reducible refine (spec_l03Name.calls a1_1 false _ A9.out).mono ?_); rintro e w' ⟨rfl, ⟨nd, rfl⟩⟩))
   go_meet
   case rel => exact ⟨_, (true), (by first | rfl | (simp; done) | (simp [*]; done) | (generalize ByteArray.toList a1_2 = q_; cases q_ <;> first | rfl | (simp; done))), H', ⟨by first | omega | exact Nat.le_refl _⟩, ⟨bk BK132⟩, ⟨bk BK133⟩, ⟨bk BK134⟩, ⟨hS⟩⟩
  replace c8 := Bool.eq_false_iff.mpr c8
  subst c8
  have H1 : (spec_DoAct.j0 k true l0_0 a1_0 a1_1 a1_2 a1_3) = some (r1, r2) := by rw [if_neg (show ¬ (false = true) by decide)] at H; exact H
  clear H
  have H := H1
  clear H1
  have H' := AM H
  clear H
  have hnb51 := NB132_133.out
  have hnc51 := NB133_132.out
  have hnb52 := NB132_134.out
  have hnc52 := NB134_132.out
  have hcz53_0 := bv BK132 0 (.slice A0_0 l0_0.length c0_0)
  have hfz53_0 := bz BK132 0
  go_wp2_with (first | ((with_reducible refine gc 41 rfl ?_); refine gl 10 Try.func41 #[.agg #[.slice A0_0 l0_0.length c0_0]] ?_; (with_reducible refine (spec_DiskOk.calls k _ _ l0_0 false _ ?side1 ?side2 A7.out).mono ?_); (case side1 => repeat (first | exact (Kd.C_below HR0_0.out HB.out) | (with_reducible first | refine cA ?_ _ | refine cN ?_ _ | refine cD ?_))); (case side2 => exact HC0_0.out); rintro e w54 ⟨rfl, hb⟩; refine ⟨_, rfl, ?_⟩; replace BK132 := bw BK132 hb; replace BK133 := bw BK133 hb; replace BK134 := bw BK134 hb; replace HB := AM (below_step (hS) hb); (try clear hb)))
  go_meet
  case rel => exact ⟨_, (true), (by first | rfl | (simp; done) | (simp [*]; done) | (generalize ByteArray.toList a1_2 = q_; cases q_ <;> first | rfl | (simp; done))), H', ⟨by first | omega | exact Nat.le_refl _⟩, ⟨bk BK132⟩, ⟨bk BK133⟩, ⟨bk BK134⟩, ⟨hS⟩⟩
 case rest =>
  clear HC3
  obtain ⟨kq, x37_2, rfl, HA, HJ2, BK132, BK133, BK134, HB⟩ := hcut
  cases kq with
  | zero => exact absurd HA.out (by simp [spec_DoAct.j0])
  | succ kj2 =>
   have H := HA.out
   clear HA
   simp only [spec_DoAct.j0] at H
   by_cases c55 : x37_2 = true
   ·subst c55
    have H1 : (some (([] : List (S67)), false)) = some (r1, r2) := by rw [if_pos rfl] at H; exact H
    clear H
    have H := H1
    clear H1
    simp only [Option.some.injEq, Prod.mk.injEq] at H
    obtain ⟨rfl, rfl⟩ := H
    have hnb56 := NB134_132.out
    have hnc56 := NB132_134.out
    have hnb57 := NB134_133.out
    have hnc57 := NB133_134.out
    have hcz58_0 := bv BK134 0 (.slice none 0 0)
    have hfz58_0 := bz BK134 0
    go_wp2
    refine bodyPost_ret (results_ct rfl _ _ gb134 30 #[.slice none 0 0] (0, 0) _ rfl (bp #[.slice none 0 0] 0) Try.underlying30 rfl (by kernel_rfl)) rfl ?_
    exact ⟨_, er, by first | exact Kd.R_nil _ _ _ _ _ | exact Kd.N_nil _ _ _ _ _ | exact Kd.V_nil _ _ _ _ _ | exact Kd.Q_nil _ _ _ _ _ | exact Kd.S_nil _ _ _ _ _, hS⟩
   replace c55 := Bool.eq_false_iff.mpr c55
   subst c55
   have H1 : ((spec_l03At.f kj2 l0_0 a1_1).bind fun t137 => (if t137 ≥ 0 then (if 0 ≤ t137 then (if t137 < (l0_0.length : Int) then (spec_DoAct.j1 kj2 t137 l0_0 a1_0 a1_1 a1_2 a1_3 ((rd_T67 l0_0 t137).f0) ((rd_T67 l0_0 t137).f1) ((rd_T67 l0_0 t137).f2)) else (none)) else (none)) else (spec_DoAct.j1 kj2 t137 l0_0 a1_0 a1_1 a1_2 a1_3 a1_1 (⟨#[]⟩ : ByteArray) 0))) = some (r1, r2) := by rw [if_neg (show ¬ (false = true) by decide)] at H; exact H
   clear H
   have H := H1
   clear H1
   replace H := bm H
   obtain ⟨t137, A590, H⟩ := H
   replace H : (if t137 ≥ 0 then (if 0 ≤ t137 then (if t137 < (l0_0.length : Int) then (spec_DoAct.j1 kj2 t137 l0_0 a1_0 a1_1 a1_2 a1_3 ((rd_T67 l0_0 t137).f0) ((rd_T67 l0_0 t137).f1) ((rd_T67 l0_0 t137).f2)) else (none)) else (none)) else (spec_DoAct.j1 kj2 t137 l0_0 a1_0 a1_1 a1_2 a1_3 a1_1 (⟨#[]⟩ : ByteArray) 0)) = some (r1, r2) := H
   have A59 := AM A590
   clear A590
   have HC60 := AM H
   clear H
   have hnb61 := NB132_133.out
   have hnc61 := NB133_132.out
   have hnb62 := NB132_134.out
   have hnc62 := NB134_132.out
   have hcz63_0 := bv BK132 0 (.slice A0_0 l0_0.length c0_0)
   have hfz63_0 := bz BK132 0
   have hnb64 := NB133_134.out
   have hnc64 := NB134_133.out
   have hcz65_0 := bv BK133 0 (.int .i64 a1_0)
   have hcz65_1 := bv BK133 1 (.string a1_1)
   have hcz65_2 := bv BK133 2 (.string a1_2)
   have hcz65_3 := bv BK133 3 (.string a1_3)
   have hfz65_0 := bz BK133 0
   have hfz65_1 := bz BK133 1
   have hfz65_2 := bz BK133 2
   have hfz65_3 := bz BK133 3
   go_upto_if 47 with (first | ((with_reducible refine gc 37 rfl ?_); refine gl 42 Try.func37 #[.agg #[.slice A0_0 l0_0.length c0_0], .string a1_1] ?_; (with_reducible refine (spec_l03At.calls kj2 _ _ l0_0 a1_1 t137 _ ?side1 ?side2 A59.out).mono ?_); (case side1 => repeat (first | exact (Kd.C_below HR0_0.out HB.out) | (with_reducible first | refine cA ?_ _ | refine cN ?_ _ | refine cD ?_))); (case side2 => exact HC0_0.out); rintro e w66 ⟨rfl, hb⟩; refine ⟨_, rfl, ?_⟩; replace BK132 := bw BK132 hb; replace BK133 := bw BK133 hb; replace BK134 := bw BK134 hb; replace HB := AM (below_step (hS) hb); (try clear hb); have hcz67_0 := bv BK133 0 (.int .i64 a1_0); have hcz67_1 := bv BK133 1 (.string a1_1); have hcz67_2 := bv BK133 2 (.string a1_2); have hcz67_3 := bv BK133 3 (.string a1_3); have hfz67_0 := bz BK133 0; have hfz67_1 := bz BK133 1; have hfz67_2 := bz BK133 2; have hfz67_3 := bz BK133 3) | ((with_reducible refine gd 7 rfl ?_); refine bx (N := 7) (cs := #[.string (⟨#[]⟩ : ByteArray), .string (⟨#[]⟩ : ByteArray), .int .i64 0]) (t := 67) ?_; intro gb138 hg w68 hbox hb; have BK138 := AM (hbox); have GW138 := AM (bt hg hS); have GE138 := AM (bt hg hS); replace HB := AM (below_step (hS) hb); have NB132_138 := AM (nl hg (bk BK132)); have NB138_132 := AM (ng hg (bk BK132)); replace BK132 := bw BK132 hb; have NB133_138 := AM (nl hg (bk BK133)); have NB138_133 := AM (ng hg (bk BK133)); replace BK133 := bw BK133 hb; have NB134_138 := AM (nl hg (bk BK134)); have NB138_134 := AM (ng hg (bk BK134)); replace BK134 := bw BK134 hb; clear hb hbox hg; have hnb69 := NB138_132.out; have hnc69 := NB132_138.out; have hnb70 := NB138_133.out; have hnc70 := NB133_138.out; have hnb71 := NB138_134.out; have hnc71 := NB134_138.out; have hcz72_0 := bv BK138 0 (.string (⟨#[]⟩ : ByteArray)); have hcz72_1 := bv BK138 1 (.string (⟨#[]⟩ : ByteArray)); have hcz72_2 := bv BK138 2 (.int .i64 0); have hfz72_0 := bz BK138 0; have hfz72_1 := bz BK138 1; have hfz72_2 := bz BK138 2))
   (try simp only [Act.put, qT, q0, qS])
   go_cut [] (fun wc => ∃ (kq : Nat) (x139000_59 : ByteArray) (x139001_59 : ByteArray) (x139002_59 : Int), Aside0 (spec_DoAct.j1 kq t137 l0_0 a1_0 a1_1 a1_2 a1_3 x139000_59 x139001_59 x139002_59 = some (r1, r2)) ∧ Aside0 (kq ≤ kj2) ∧ Aside0 (wc.heap[gb132]? = some (.cells #[(.slice A0_0 l0_0.length c0_0)] 30 (0, 0))) ∧ Aside0 (wc.heap[gb133]? = some (.cells #[.int .i64 a1_0, .string a1_1, .string a1_2, .string a1_3] 41 (0, 0))) ∧ Aside0 (wc.heap[gb134]? = some (.cells #[(.slice none 0 0)] 30 (0, 0))) ∧ Aside0 (wc.heap[gb138]? = some (.cells #[.string x139000_59, .string x139001_59, .int .i64 x139002_59] 67 (0, 0))) ∧ Aside0 (Below w.heap.size w wc))
   case first =>
    have H := HC60.out
    clear HC60
    by_cases c73 : t137 ≥ 0
    ·rw [if_pos c73] at H
     have c73b0 : decide (0 ≤ t137) = true := decide_eq_true c73
     clear c73
     (first | rw [c73b0] | (simp only [i64_w, i32_w]; rw [c73b0]) | rw [c73b1] | skip)
     by_cases c74 : 0 ≤ t137
     ·rw [if_pos c74] at H
      have c74b0 : decide (0 ≤ t137) = true := decide_eq_true c74
      clear c74
      by_cases c75 : t137 < (l0_0.length : Int)
      ·rw [if_pos c75] at H
       have c75b0 : decide (t137 < (l0_0.length : Int)) = true := decide_eq_true c75
       clear c75
       have H' := AM H
       clear H
       have hnb76 := NB132_133.out
       have hnc76 := NB133_132.out
       have hnb77 := NB132_134.out
       have hnc77 := NB134_132.out
       have hnb78 := NB132_138.out
       have hnc78 := NB138_132.out
       have hcz79_0 := bv BK132 0 (.slice A0_0 l0_0.length c0_0)
       have hfz79_0 := bz BK132 0
       have p139 : 0 ≤ (t137 : Int) := od
       have q139 : t137 < (l0_0.length : Int) := od
       obtain ⟨ad139, e139, hx139_0, hx139_1, hx139_2⟩ := at_T67 HR0_0.out t137 p139 q139
       cases e139
       have hn139_0 : ad139.block ≠ gb138 := Nat.ne_of_lt (Nat.lt_of_lt_of_le (by have := World.block_lt_of_cell? _ _ hx139_0; first | rwa [add_block] at this | exact this) GW138.out)
       have hn139_1 : ad139.block ≠ gb138 := Nat.ne_of_lt (Nat.lt_of_lt_of_le (by have := World.block_lt_of_cell? _ _ hx139_0; first | rwa [add_block] at this | exact this) GW138.out)
       have hn139_2 : ad139.block ≠ gb138 := Nat.ne_of_lt (Nat.lt_of_lt_of_le (by have := World.block_lt_of_cell? _ _ hx139_0; first | rwa [add_block] at this | exact this) GW138.out)
       replace hx139_0 := cl HB hx139_0
       replace hx139_1 := cl HB hx139_1
       replace hx139_2 := cl HB hx139_2
       replace hx139_0 := (cell_far (p := ⟨gb138, 0, none⟩) (by first | (rw [add_block]; exact hn139_0) | (show (Addr.add _ _).block ≠ _; rw [add_block]; exact hn139_0) | exact hn139_0) (.string a1_1)).trans hx139_0
       replace hx139_1 := (cell_far (p := ⟨gb138, 0, none⟩) (by first | (rw [add_block]; exact hn139_0) | (show (Addr.add _ _).block ≠ _; rw [add_block]; exact hn139_0) | exact hn139_0) (.string a1_1)).trans hx139_1
       replace hx139_2 := (cell_far (p := ⟨gb138, 0, none⟩) (by first | (rw [add_block]; exact hn139_0) | (show (Addr.add _ _).block ≠ _; rw [add_block]; exact hn139_0) | exact hn139_0) (.string a1_1)).trans hx139_2
       replace hx139_0 := (cell_far (p := ⟨gb138, 1, none⟩) (by first | (rw [add_block]; exact hn139_1) | (show (Addr.add _ _).block ≠ _; rw [add_block]; exact hn139_1) | exact hn139_1) (.string (⟨#[]⟩ : ByteArray))).trans hx139_0
       replace hx139_1 := (cell_far (p := ⟨gb138, 1, none⟩) (by first | (rw [add_block]; exact hn139_1) | (show (Addr.add _ _).block ≠ _; rw [add_block]; exact hn139_1) | exact hn139_1) (.string (⟨#[]⟩ : ByteArray))).trans hx139_1
       replace hx139_2 := (cell_far (p := ⟨gb138, 1, none⟩) (by first | (rw [add_block]; exact hn139_1) | (show (Addr.add _ _).block ≠ _; rw [add_block]; exact hn139_1) | exact hn139_1) (.string (⟨#[]⟩ : ByteArray))).trans hx139_2
       replace hx139_0 := (cell_far (p := ⟨gb138, 2, none⟩) (by first | (rw [add_block]; exact hn139_2) | (show (Addr.add _ _).block ≠ _; rw [add_block]; exact hn139_2) | exact hn139_2) (.int .i64 0)).trans hx139_0
       replace hx139_1 := (cell_far (p := ⟨gb138, 2, none⟩) (by first | (rw [add_block]; exact hn139_2) | (show (Addr.add _ _).block ≠ _; rw [add_block]; exact hn139_2) | exact hn139_2) (.int .i64 0)).trans hx139_1
       replace hx139_2 := (cell_far (p := ⟨gb138, 2, none⟩) (by first | (rw [add_block]; exact hn139_2) | (show (Addr.add _ _).block ≠ _; rw [add_block]; exact hn139_2) | exact hn139_2) (.int .i64 0)).trans hx139_2
       clear hn139_0
       clear hn139_1
       clear hn139_2
       replace p139 := eq_true p139
       replace q139 := eq_true q139
       have hnb80 := NB138_133.out
       have hnc80 := NB133_138.out
       have hnb81 := NB138_134.out
       have hnc81 := NB134_138.out
       have hcz82_0 := bv BK138 0 (.string (⟨#[]⟩ : ByteArray))
       have hcz82_1 := bv BK138 1 (.string (⟨#[]⟩ : ByteArray))
       have hcz82_2 := bv BK138 2 (.int .i64 0)
       have hfz82_0 := bz BK138 0
       have hfz82_1 := bz BK138 1
       have hfz82_2 := bz BK138 2
       go_wp2
       go_meet
       case rel => exact ⟨_, ((rd_T67 l0_0 t137).f0), ((rd_T67 l0_0 t137).f1), ((rd_T67 l0_0 t137).f2), H', ⟨by have := HJ2.out; first | omega | exact Nat.le_refl _⟩, ⟨be⟩, ⟨be⟩, ⟨be⟩, ⟨by (with_reducible repeat first | apply aN | apply aD | apply aA); refine blk_put (cs := #[.string ((rd_T67 l0_0 t137).f0), .string ((rd_T67 l0_0 t137).f1), .int .i64 0]) ?_ 2 _ rfl; (with_reducible repeat first | apply aN | apply aD | apply aA); refine blk_put (cs := #[.string ((rd_T67 l0_0 t137).f0), .string (⟨#[]⟩ : ByteArray), .int .i64 0]) ?_ 1 _ rfl; (with_reducible repeat first | apply aN | apply aD | apply aA); refine blk_put (cs := #[.string a1_1, .string (⟨#[]⟩ : ByteArray), .int .i64 0]) ?_ 0 _ rfl; (with_reducible repeat first | apply aN | apply aD | apply aA); refine blk_put (cs := #[.string a1_1, .string (⟨#[]⟩ : ByteArray), .int .i64 0]) ?_ 2 _ rfl; (with_reducible repeat first | apply aN | apply aD | apply aA); refine blk_put (cs := #[.string a1_1, .string (⟨#[]⟩ : ByteArray), .int .i64 0]) ?_ 1 _ rfl; (with_reducible repeat first | apply aN | apply aD | apply aA); refine blk_put (cs := #[.string (⟨#[]⟩ : ByteArray), .string (⟨#[]⟩ : ByteArray), .int .i64 0]) ?_ 0 _ rfl; exact bk BK138⟩, ⟨hS⟩⟩
      rw [if_neg c75] at H
      exact absurd H (by simp)
     rw [if_neg c74] at H
     exact absurd H (by simp)
    rw [if_neg c73] at H
    have c73b0 : decide (0 ≤ t137) = false := decide_eq_false c73
    clear c73
    (first | rw [c73b0] | (simp only [i64_w, i32_w]; rw [c73b0]) | rw [c73b1] | skip)
    have H' := AM H
    clear H
    go_wp2
    go_meet
    case rel => exact ⟨_, (a1_1), ((⟨#[]⟩ : ByteArray)), (0), H', ⟨by have := HJ2.out; first | omega | exact Nat.le_refl _⟩, ⟨be⟩, ⟨be⟩, ⟨be⟩, ⟨by (with_reducible repeat first | apply aN | apply aD | apply aA); refine blk_put (cs := #[.string a1_1, .string (⟨#[]⟩ : ByteArray), .int .i64 0]) ?_ 2 _ rfl; (with_reducible repeat first | apply aN | apply aD | apply aA); refine blk_put (cs := #[.string a1_1, .string (⟨#[]⟩ : ByteArray), .int .i64 0]) ?_ 1 _ rfl; (with_reducible repeat first | apply aN | apply aD | apply aA); refine blk_put (cs := #[.string (⟨#[]⟩ : ByteArray), .string (⟨#[]⟩ : ByteArray), .int .i64 0]) ?_ 0 _ rfl; exact bk BK138⟩, ⟨hS⟩⟩
   case rest =>
    clear HC60
    obtain ⟨kq, x139000_59, x139001_59, x139002_59, HA, HJ59, BK132, BK133, BK134, BK138, HB⟩ := hcut
    cases kq with
    | zero => exact absurd HA.out (by simp [spec_DoAct.j1])
    | succ kj59 =>
     have H := HA.out
     clear HA
     simp only [spec_DoAct.j1] at H
     by_cases c83 : a1_0 = 1
     ·rw [if_pos c83] at H
      have c83b0 : (a1_0 == 1) = true := beq_iff_eq.mpr c83
      have c83b1 : (a1_0 != 1) = false := bne_eq_false_iff_eq.mpr c83
      clear c83
      by_cases c84 : x139001_59.size + a1_2.size ≤ 9223372036854775807
      ·rw [if_pos c84] at H
       have c84b0 := eq_true c84
       have c84b1 : decide (x139001_59.size + a1_2.size ≤ 9223372036854775807) = true := decide_eq_true c84
       try have c84b2 : (9223372036854775807 < x139001_59.size + a1_2.size) = False := eq_false (Nat.not_lt.2 c84)
       replace H := bm H
       obtain ⟨t141, A850, H⟩ := H
       replace H : ((spec_DiskOk.f kj59 t141).bind fun t144 => (if t144 = true then (some (t141, true)) else (some (([] : List (S67)), false)))) = some (r1, r2) := H
       have A85 := AM A850
       clear A850
       replace H := bm H
       obtain ⟨t144, A860, H⟩ := H
       replace H : (if t144 = true then (some (t141, true)) else (some (([] : List (S67)), false))) = some (r1, r2) := H
       have A86 := AM A860
       clear A860
       by_cases c87 : t144 = true
       ·subst c87
        have H1 : (some (t141, true)) = some (r1, r2) := by rw [if_pos rfl] at H; exact H
        clear H
        have H := H1
        clear H1
        simp only [Option.some.injEq, Prod.mk.injEq] at H
        obtain ⟨rfl, rfl⟩ := H
        go_wp2_with (first | ((with_reducible refine gd 8 rfl ?_); refine bx (N := 8) (cs := #[.slice none 0 0]) (t := 30) ?_; intro gb140 hg w88 hbox hb; have BK140 := AM (hbox); have GW140 := AM (bt hg hS); have GE140 := AM (bt hg hS); replace HB := AM (below_step (hS) hb); have NB132_140 := AM (nl hg (bk BK132)); have NB140_132 := AM (ng hg (bk BK132)); replace BK132 := bw BK132 hb; have NB133_140 := AM (nl hg (bk BK133)); have NB140_133 := AM (ng hg (bk BK133)); replace BK133 := bw BK133 hb; have NB134_140 := AM (nl hg (bk BK134)); have NB140_134 := AM (ng hg (bk BK134)); replace BK134 := bw BK134 hb; have NB138_140 := AM (nl hg (bk BK138)); have NB140_138 := AM (ng hg (bk BK138)); replace BK138 := bw BK138 hb; clear hb hbox hg; have hnb89 := NB140_132.out; have hnc89 := NB132_140.out; have hnb90 := NB140_133.out; have hnc90 := NB133_140.out; have hnb91 := NB140_134.out; have hnc91 := NB134_140.out; have hnb92 := NB140_138.out; have hnc92 := NB138_140.out; have hcz93_0 := bv BK140 0 (.slice none 0 0); have hfz93_0 := bz BK140 0; have hnb94 := NB133_132.out; have hnc94 := NB132_133.out; have hnb95 := NB133_134.out; have hnc95 := NB134_133.out; have hnb96 := NB133_138.out; have hnc96 := NB138_133.out; have hcz97_0 := bv BK133 0 (.int .i64 a1_0); have hcz97_1 := bv BK133 1 (.string a1_1); have hcz97_2 := bv BK133 2 (.string a1_2); have hcz97_3 := bv BK133 3 (.string a1_3); have hfz97_0 := bz BK133 0; have hfz97_1 := bz BK133 1; have hfz97_2 := bz BK133 2; have hfz97_3 := bz BK133 3; have hnb98 := NB138_132.out; have hnc98 := NB132_138.out; have hnb99 := NB138_134.out; have hnc99 := NB134_138.out; have hcz100_0 := bv BK138 0 (.string x139000_59); have hcz100_1 := bv BK138 1 (.string x139001_59); have hcz100_2 := bv BK138 2 (.int .i64 x139002_59); have hfz100_0 := bz BK138 0; have hfz100_1 := bz BK138 1; have hfz100_2 := bz BK138 2; have hnb101 := NB132_134.out; have hnc101 := NB134_132.out; have hcz102_0 := bv BK132 0 (.slice A0_0 l0_0.length c0_0); have hfz102_0 := bz BK132 0) | ((with_reducible refine gc 46 rfl ?_); refine gl 67 Try.func46 #[.agg #[.slice A0_0 l0_0.length c0_0], .agg #[.string x139000_59, .string (x139001_59 ++ a1_2), .int .i64 x139002_59]] ?_; (with_reducible refine (spec_l03Put.calls kj59 _ _ l0_0 x139000_59 (x139001_59 ++ a1_2) x139002_59 t141 _ ?side1 ?side2 A85.out).mono ?_); (case side1 => exact Kd.C_below HR0_0.out (hS)); (case side2 => exact HC0_0.out); rintro e w103 ⟨v142, rfl, ho0, hb⟩; refine ⟨_, rfl, ?_⟩; have n0_ := AM (Kd.R_lower (Kd.R_newB ho0 (g := gb138) (o := .cells #[.string x139000_59, .string (x139001_59 ++ a1_2), .int .i64 x139002_59] 67 (0, 0)) (bp #[.string x139000_59, .string x139001_59, .int .i64 x139002_59] 1)) (below_size (hS))); have n1_ := AM (blk_below (g := gb132) (o := .cells #[.slice A0_0 l0_0.length c0_0] 30 (0, 0)) (be) hb); have n2_ := AM (blk_below (g := gb133) (o := .cells #[.int .i64 a1_0, .string a1_1, .string a1_2, .string a1_3] 41 (0, 0)) (be) hb); have n3_ := AM (blk_below (g := gb134) (o := .cells #[.slice none 0 0] 30 (0, 0)) (be) hb); have n4_ := AM (blk_below (g := gb138) (o := .cells #[.string x139000_59, .string (x139001_59 ++ a1_2), .int .i64 x139002_59] 67 (0, 0)) (bp #[.string x139000_59, .string x139001_59, .int .i64 x139002_59] 1) hb); have n5_ := AM (blk_below (g := gb140) (o := .cells #[.slice none 0 0] 30 (0, 0)) (by (with_reducible repeat first | apply aN | apply aD | apply aA); refine blk_far ?_ NB140_138.out _; (with_reducible repeat first | apply aN | apply aD | apply aA); refine blk_put (cs := #[.slice none 0 0]) ?_ 0 _ rfl; exact bk BK140) hb); have n6_ := AM (below_step (hS) hb); clear BK132; clear BK133; clear BK134; clear BK138; clear BK140; clear HB; have HO143 := n0_; have BK132 := n1_; have BK133 := n2_; have BK134 := n3_; have BK138 := n4_; have BK140 := n5_; have HB := n6_; clear n0_ n1_ n2_ n3_ n4_ n5_ n6_; (try clear hb); (try clear ho0); obtain ⟨Ao104, co104, eo104⟩ := Kd.R_slice HO143.out; subst eo104; have hcz105_0 := bv BK140 0 (.slice none 0 0); have hfz105_0 := bz BK140 0) | ((with_reducible refine gc 41 rfl ?_); refine gl 125 Try.func41 #[.agg #[.slice Ao104 t141.length co104]] ?_; (with_reducible refine (spec_DiskOk.calls kj59 _ _ t141 true _ ?side1 ?side2 A86.out).mono ?_); (case side1 => refine (Kd.R_reads' (e := 67) (base := w.heap.size) (ok := fun k_ => (True ∧ k_ ≠ gb138)) (n := t141.length) (c := co104) ?_).2.2; exact (by exact (Kd.R_mono (Kd.R_far (p := ⟨gb140, 0, none⟩) (Kd.R_types HO143.out BK140.out (by decide)) (fun _ hk => hk.2) (.slice Ao104 t141.length co104)) (fun _ h_ => h_.1)))); (case side2 => exact (Kd.R_reads' HO143.out).2.1); rintro e w106 ⟨rfl, hb⟩; refine ⟨_, rfl, ?_⟩; have n0_ := AM (Kd.R_below (by exact (Kd.R_mono (Kd.R_far (p := ⟨gb140, 0, none⟩) (Kd.R_types HO143.out BK140.out (by decide)) (fun _ hk => hk.2) (.slice Ao104 t141.length co104)) (fun _ h_ => h_.1))) hb); have n1_ := AM (blk_below (g := gb132) (o := .cells #[.slice A0_0 l0_0.length c0_0] 30 (0, 0)) (be) hb); have n2_ := AM (blk_below (g := gb133) (o := .cells #[.int .i64 a1_0, .string a1_1, .string a1_2, .string a1_3] 41 (0, 0)) (be) hb); have n3_ := AM (blk_below (g := gb134) (o := .cells #[.slice none 0 0] 30 (0, 0)) (be) hb); have n4_ := AM (blk_below (g := gb138) (o := .cells #[.string x139000_59, .string (x139001_59 ++ a1_2), .int .i64 x139002_59] 67 (0, 0)) (be) hb); have n5_ := AM (blk_below (g := gb140) (o := .cells #[.slice Ao104 t141.length co104] 30 (0, 0)) (bp #[.slice none 0 0] 0) hb); have n6_ := AM (below_step (hS) hb); clear HO143; clear BK132; clear BK133; clear BK134; clear BK138; clear BK140; clear HB; have HO143 := n0_; have BK132 := n1_; have BK133 := n2_; have BK134 := n3_; have BK138 := n4_; have BK140 := n5_; have HB := n6_; clear n0_ n1_ n2_ n3_ n4_ n5_ n6_; (try clear hb); (try clear hk); have hcz107_0 := bv BK140 0 (.slice Ao104 t141.length co104); have hfz107_0 := bz BK140 0; have hcz108_0 := bv BK134 0 (.slice none 0 0); have hfz108_0 := bz BK134 0))
        refine bodyPost_ret (results_ct rfl _ _ gb134 30 #[.slice Ao104 t141.length co104] (0, 0) _ rfl (bp #[.slice none 0 0] 0) Try.underlying30 rfl (by kernel_rfl)) rfl ?_
        exact ⟨_, er, by exact Kd.R_mono (Kd.R_far (p := ⟨gb134, 0, none⟩) (Kd.R_types HO143.out BK134.out (by decide)) (fun _ hk => hk.2) (.slice Ao104 t141.length co104)) (fun _ hk => trivial), hS⟩
       replace c87 := Bool.eq_false_iff.mpr c87
       subst c87
       have H1 : (some (([] : List (S67)), false)) = some (r1, r2) := by rw [if_neg (show ¬ (false = true) by decide)] at H; exact H
       clear H
       have H := H1
       clear H1
       simp only [Option.some.injEq, Prod.mk.injEq] at H
       obtain ⟨rfl, rfl⟩ := H
       go_wp2_with (first | ((with_reducible refine gd 8 rfl ?_); refine bx (N := 8) (cs := #[.slice none 0 0]) (t := 30) ?_; intro gb140 hg w109 hbox hb; have BK140 := AM (hbox); have GW140 := AM (bt hg hS); have GE140 := AM (bt hg hS); replace HB := AM (below_step (hS) hb); have NB132_140 := AM (nl hg (bk BK132)); have NB140_132 := AM (ng hg (bk BK132)); replace BK132 := bw BK132 hb; have NB133_140 := AM (nl hg (bk BK133)); have NB140_133 := AM (ng hg (bk BK133)); replace BK133 := bw BK133 hb; have NB134_140 := AM (nl hg (bk BK134)); have NB140_134 := AM (ng hg (bk BK134)); replace BK134 := bw BK134 hb; have NB138_140 := AM (nl hg (bk BK138)); have NB140_138 := AM (ng hg (bk BK138)); replace BK138 := bw BK138 hb; clear hb hbox hg; have hnb110 := NB140_132.out; have hnc110 := NB132_140.out; have hnb111 := NB140_133.out; have hnc111 := NB133_140.out; have hnb112 := NB140_134.out; have hnc112 := NB134_140.out; have hnb113 := NB140_138.out; have hnc113 := NB138_140.out; have hcz114_0 := bv BK140 0 (.slice none 0 0); have hfz114_0 := bz BK140 0; have hnb115 := NB133_132.out; have hnc115 := NB132_133.out; have hnb116 := NB133_134.out; have hnc116 := NB134_133.out; have hnb117 := NB133_138.out; have hnc117 := NB138_133.out; have hcz118_0 := bv BK133 0 (.int .i64 a1_0); have hcz118_1 := bv BK133 1 (.string a1_1); have hcz118_2 := bv BK133 2 (.string a1_2); have hcz118_3 := bv BK133 3 (.string a1_3); have hfz118_0 := bz BK133 0; have hfz118_1 := bz BK133 1; have hfz118_2 := bz BK133 2; have hfz118_3 := bz BK133 3; have hnb119 := NB138_132.out; have hnc119 := NB132_138.out; have hnb120 := NB138_134.out; have hnc120 := NB134_138.out; have hcz121_0 := bv BK138 0 (.string x139000_59); have hcz121_1 := bv BK138 1 (.string x139001_59); have hcz121_2 := bv BK138 2 (.int .i64 x139002_59); have hfz121_0 := bz BK138 0; have hfz121_1 := bz BK138 1; have hfz121_2 := bz BK138 2; have hnb122 := NB132_134.out; have hnc122 := NB134_132.out; have hcz123_0 := bv BK132 0 (.slice A0_0 l0_0.length c0_0); have hfz123_0 := bz BK132 0) | ((with_reducible refine gc 46 rfl ?_); refine gl 67 Try.func46 #[.agg #[.slice A0_0 l0_0.length c0_0], .agg #[.string x139000_59, .string (x139001_59 ++ a1_2), .int .i64 x139002_59]] ?_; (with_reducible refine (spec_l03Put.calls kj59 _ _ l0_0 x139000_59 (x139001_59 ++ a1_2) x139002_59 t141 _ ?side1 ?side2 A85.out).mono ?_); (case side1 => exact Kd.C_below HR0_0.out (hS)); (case side2 => exact HC0_0.out); rintro e w124 ⟨v142, rfl, ho0, hb⟩; refine ⟨_, rfl, ?_⟩; have n0_ := AM (Kd.R_lower (Kd.R_newB ho0 (g := gb138) (o := .cells #[.string x139000_59, .string (x139001_59 ++ a1_2), .int .i64 x139002_59] 67 (0, 0)) (bp #[.string x139000_59, .string x139001_59, .int .i64 x139002_59] 1)) (below_size (hS))); have n1_ := AM (blk_below (g := gb132) (o := .cells #[.slice A0_0 l0_0.length c0_0] 30 (0, 0)) (be) hb); have n2_ := AM (blk_below (g := gb133) (o := .cells #[.int .i64 a1_0, .string a1_1, .string a1_2, .string a1_3] 41 (0, 0)) (be) hb); have n3_ := AM (blk_below (g := gb134) (o := .cells #[.slice none 0 0] 30 (0, 0)) (be) hb); have n4_ := AM (blk_below (g := gb138) (o := .cells #[.string x139000_59, .string (x139001_59 ++ a1_2), .int .i64 x139002_59] 67 (0, 0)) (bp #[.string x139000_59, .string x139001_59, .int .i64 x139002_59] 1) hb); have n5_ := AM (blk_below (g := gb140) (o := .cells #[.slice none 0 0] 30 (0, 0)) (by (with_reducible repeat first | apply aN | apply aD | apply aA); refine blk_far ?_ NB140_138.out _; (with_reducible repeat first | apply aN | apply aD | apply aA); refine blk_put (cs := #[.slice none 0 0]) ?_ 0 _ rfl; exact bk BK140) hb); have n6_ := AM (below_step (hS) hb); clear BK132; clear BK133; clear BK134; clear BK138; clear BK140; clear HB; have HO143 := n0_; have BK132 := n1_; have BK133 := n2_; have BK134 := n3_; have BK138 := n4_; have BK140 := n5_; have HB := n6_; clear n0_ n1_ n2_ n3_ n4_ n5_ n6_; (try clear hb); (try clear ho0); obtain ⟨Ao125, co125, eo125⟩ := Kd.R_slice HO143.out; subst eo125; have hcz126_0 := bv BK140 0 (.slice none 0 0); have hfz126_0 := bz BK140 0) | ((with_reducible refine gc 41 rfl ?_); refine gl 125 Try.func41 #[.agg #[.slice Ao125 t141.length co125]] ?_; (with_reducible refine (spec_DiskOk.calls kj59 _ _ t141 false _ ?side1 ?side2 A86.out).mono ?_); (case side1 => refine (Kd.R_reads' (e := 67) (base := w.heap.size) (ok := fun k_ => (True ∧ k_ ≠ gb138)) (n := t141.length) (c := co125) ?_).2.2; exact (by exact (Kd.R_mono (Kd.R_far (p := ⟨gb140, 0, none⟩) (Kd.R_types HO143.out BK140.out (by decide)) (fun _ hk => hk.2) (.slice Ao125 t141.length co125)) (fun _ h_ => h_.1)))); (case side2 => exact (Kd.R_reads' HO143.out).2.1); rintro e w127 ⟨rfl, hb⟩; refine ⟨_, rfl, ?_⟩; have n0_ := AM (Kd.R_below (by exact (Kd.R_mono (Kd.R_far (p := ⟨gb140, 0, none⟩) (Kd.R_types HO143.out BK140.out (by decide)) (fun _ hk => hk.2) (.slice Ao125 t141.length co125)) (fun _ h_ => h_.1))) hb); have n1_ := AM (blk_below (g := gb132) (o := .cells #[.slice A0_0 l0_0.length c0_0] 30 (0, 0)) (be) hb); have n2_ := AM (blk_below (g := gb133) (o := .cells #[.int .i64 a1_0, .string a1_1, .string a1_2, .string a1_3] 41 (0, 0)) (be) hb); have n3_ := AM (blk_below (g := gb134) (o := .cells #[.slice none 0 0] 30 (0, 0)) (be) hb); have n4_ := AM (blk_below (g := gb138) (o := .cells #[.string x139000_59, .string (x139001_59 ++ a1_2), .int .i64 x139002_59] 67 (0, 0)) (be) hb); have n5_ := AM (blk_below (g := gb140) (o := .cells #[.slice Ao125 t141.length co125] 30 (0, 0)) (bp #[.slice none 0 0] 0) hb); have n6_ := AM (below_step (hS) hb); clear HO143; clear BK132; clear BK133; clear BK134; clear BK138; clear BK140; clear HB; have HO143 := n0_; have BK132 := n1_; have BK133 := n2_; have BK134 := n3_; have BK138 := n4_; have BK140 := n5_; have HB := n6_; clear n0_ n1_ n2_ n3_ n4_ n5_ n6_; (try clear hb); (try clear hk); have hcz128_0 := bv BK134 0 (.slice none 0 0); have hfz128_0 := bz BK134 0))
       refine bodyPost_ret (results_ct rfl _ _ gb134 30 #[.slice none 0 0] (0, 0) _ rfl (bp #[.slice none 0 0] 0) Try.underlying30 rfl (by kernel_rfl)) rfl ?_
       exact ⟨_, er, by first | exact Kd.R_nil _ _ _ _ _ | exact Kd.N_nil _ _ _ _ _ | exact Kd.V_nil _ _ _ _ _ | exact Kd.Q_nil _ _ _ _ _ | exact Kd.S_nil _ _ _ _ _, hS⟩
      rw [if_neg c84] at H
      exact absurd H (by simp)
     rw [if_neg c83] at H
     have c83b0 : (a1_0 == 1) = false := beq_eq_false_iff_ne.mpr c83
     have c83b1 : (a1_0 != 1) = true := bne_iff_ne.mpr c83
     by_cases c129 : t137 < 0
     ·rw [if_pos c129] at H
      have c129b0 : decide (t137 < 0) = true := decide_eq_true c129
      clear c129
      simp only [Option.some.injEq, Prod.mk.injEq] at H
      obtain ⟨rfl, rfl⟩ := H
      go_wp2_with (first | ((with_reducible refine gd 8 rfl ?_); refine bx (N := 8) (cs := #[.slice none 0 0]) (t := 30) ?_; intro gb140 hg w130 hbox hb; have BK140 := AM (hbox); have GW140 := AM (bt hg hS); have GE140 := AM (bt hg hS); replace HB := AM (below_step (hS) hb); have NB132_140 := AM (nl hg (bk BK132)); have NB140_132 := AM (ng hg (bk BK132)); replace BK132 := bw BK132 hb; have NB133_140 := AM (nl hg (bk BK133)); have NB140_133 := AM (ng hg (bk BK133)); replace BK133 := bw BK133 hb; have NB134_140 := AM (nl hg (bk BK134)); have NB140_134 := AM (ng hg (bk BK134)); replace BK134 := bw BK134 hb; have NB138_140 := AM (nl hg (bk BK138)); have NB140_138 := AM (ng hg (bk BK138)); replace BK138 := bw BK138 hb; clear hb hbox hg; have hnb131 := NB140_132.out; have hnc131 := NB132_140.out; have hnb132 := NB140_133.out; have hnc132 := NB133_140.out; have hnb133 := NB140_134.out; have hnc133 := NB134_140.out; have hnb134 := NB140_138.out; have hnc134 := NB138_140.out; have hcz135_0 := bv BK140 0 (.slice none 0 0); have hfz135_0 := bz BK140 0; have hnb136 := NB133_132.out; have hnc136 := NB132_133.out; have hnb137 := NB133_134.out; have hnc137 := NB134_133.out; have hnb138 := NB133_138.out; have hnc138 := NB138_133.out; have hcz139_0 := bv BK133 0 (.int .i64 a1_0); have hcz139_1 := bv BK133 1 (.string a1_1); have hcz139_2 := bv BK133 2 (.string a1_2); have hcz139_3 := bv BK133 3 (.string a1_3); have hfz139_0 := bz BK133 0; have hfz139_1 := bz BK133 1; have hfz139_2 := bz BK133 2; have hfz139_3 := bz BK133 3; have hnb140 := NB134_132.out; have hnc140 := NB132_134.out; have hnb141 := NB134_138.out; have hnc141 := NB138_134.out; have hcz142_0 := bv BK134 0 (.slice none 0 0); have hfz142_0 := bz BK134 0))
      refine bodyPost_ret (results_ct rfl _ _ gb134 30 #[.slice none 0 0] (0, 0) _ rfl (bp #[.slice none 0 0] 0) Try.underlying30 rfl (by kernel_rfl)) rfl ?_
      exact ⟨_, er, by first | exact Kd.R_nil _ _ _ _ _ | exact Kd.N_nil _ _ _ _ _ | exact Kd.V_nil _ _ _ _ _ | exact Kd.Q_nil _ _ _ _ _ | exact Kd.S_nil _ _ _ _ _, hS⟩
     rw [if_neg c129] at H
     have c129b0 : decide (t137 < 0) = false := decide_eq_false c129
     clear c129
     by_cases c143 : a1_0 = 2
     ·rw [if_pos c143] at H
      have c143b0 : (a1_0 == 2) = true := beq_iff_eq.mpr c143
      have c143b1 : (a1_0 != 2) = false := bne_eq_false_iff_eq.mpr c143
      clear c143
      replace H := bm H
      obtain ⟨t145, A1440, H⟩ := H
      replace H : ((spec_DiskOk.f kj59 t145).bind fun t148 => (if t148 = true then (some (t145, true)) else (some (([] : List (S67)), false)))) = some (r1, r2) := H
      have A144 := AM A1440
      clear A1440
      replace H := bm H
      obtain ⟨t148, A1450, H⟩ := H
      replace H : (if t148 = true then (some (t145, true)) else (some (([] : List (S67)), false))) = some (r1, r2) := H
      have A145 := AM A1450
      clear A1450
      by_cases c146 : t148 = true
      ·subst c146
       have H1 : (some (t145, true)) = some (r1, r2) := by rw [if_pos rfl] at H; exact H
       clear H
       have H := H1
       clear H1
       simp only [Option.some.injEq, Prod.mk.injEq] at H
       obtain ⟨rfl, rfl⟩ := H
       go_wp2_with (first | ((with_reducible refine gd 8 rfl ?_); refine bx (N := 8) (cs := #[.slice none 0 0]) (t := 30) ?_; intro gb140 hg w147 hbox hb; have BK140 := AM (hbox); have GW140 := AM (bt hg hS); have GE140 := AM (bt hg hS); replace HB := AM (below_step (hS) hb); have NB132_140 := AM (nl hg (bk BK132)); have NB140_132 := AM (ng hg (bk BK132)); replace BK132 := bw BK132 hb; have NB133_140 := AM (nl hg (bk BK133)); have NB140_133 := AM (ng hg (bk BK133)); replace BK133 := bw BK133 hb; have NB134_140 := AM (nl hg (bk BK134)); have NB140_134 := AM (ng hg (bk BK134)); replace BK134 := bw BK134 hb; have NB138_140 := AM (nl hg (bk BK138)); have NB140_138 := AM (ng hg (bk BK138)); replace BK138 := bw BK138 hb; clear hb hbox hg; have hnb148 := NB140_132.out; have hnc148 := NB132_140.out; have hnb149 := NB140_133.out; have hnc149 := NB133_140.out; have hnb150 := NB140_134.out; have hnc150 := NB134_140.out; have hnb151 := NB140_138.out; have hnc151 := NB138_140.out; have hcz152_0 := bv BK140 0 (.slice none 0 0); have hfz152_0 := bz BK140 0; have hnb153 := NB133_132.out; have hnc153 := NB132_133.out; have hnb154 := NB133_134.out; have hnc154 := NB134_133.out; have hnb155 := NB133_138.out; have hnc155 := NB138_133.out; have hcz156_0 := bv BK133 0 (.int .i64 a1_0); have hcz156_1 := bv BK133 1 (.string a1_1); have hcz156_2 := bv BK133 2 (.string a1_2); have hcz156_3 := bv BK133 3 (.string a1_3); have hfz156_0 := bz BK133 0; have hfz156_1 := bz BK133 1; have hfz156_2 := bz BK133 2; have hfz156_3 := bz BK133 3; have hnb157 := NB138_132.out; have hnc157 := NB132_138.out; have hnb158 := NB138_134.out; have hnc158 := NB134_138.out; have hcz159_0 := bv BK138 0 (.string x139000_59); have hcz159_1 := bv BK138 1 (.string x139001_59); have hcz159_2 := bv BK138 2 (.int .i64 x139002_59); have hfz159_0 := bz BK138 0; have hfz159_1 := bz BK138 1; have hfz159_2 := bz BK138 2; have hnb160 := NB132_134.out; have hnc160 := NB134_132.out; have hcz161_0 := bv BK132 0 (.slice A0_0 l0_0.length c0_0); have hfz161_0 := bz BK132 0) | ((with_reducible refine gc 46 rfl ?_); refine gl 82 Try.func46 #[.agg #[.slice A0_0 l0_0.length c0_0], .agg #[.string x139000_59, .string x139001_59, .int .i64 (x139001_59.size : Int)]] ?_; (with_reducible refine (spec_l03Put.calls kj59 _ _ l0_0 x139000_59 x139001_59 (x139001_59.size : Int) t145 _ ?side1 ?side2 A144.out).mono ?_); (case side1 => exact Kd.C_below HR0_0.out (hS)); (case side2 => exact HC0_0.out); rintro e w162 ⟨v146, rfl, ho0, hb⟩; refine ⟨_, rfl, ?_⟩; have n0_ := AM (Kd.R_lower (Kd.R_newB ho0 (g := gb138) (o := .cells #[.string x139000_59, .string x139001_59, .int .i64 (x139001_59.size : Int)] 67 (0, 0)) (bp #[.string x139000_59, .string x139001_59, .int .i64 x139002_59] 2)) (below_size (hS))); have n1_ := AM (blk_below (g := gb132) (o := .cells #[.slice A0_0 l0_0.length c0_0] 30 (0, 0)) (be) hb); have n2_ := AM (blk_below (g := gb133) (o := .cells #[.int .i64 a1_0, .string a1_1, .string a1_2, .string a1_3] 41 (0, 0)) (be) hb); have n3_ := AM (blk_below (g := gb134) (o := .cells #[.slice none 0 0] 30 (0, 0)) (be) hb); have n4_ := AM (blk_below (g := gb138) (o := .cells #[.string x139000_59, .string x139001_59, .int .i64 (x139001_59.size : Int)] 67 (0, 0)) (bp #[.string x139000_59, .string x139001_59, .int .i64 x139002_59] 2) hb); have n5_ := AM (blk_below (g := gb140) (o := .cells #[.slice none 0 0] 30 (0, 0)) (by (with_reducible repeat first | apply aN | apply aD | apply aA); refine blk_far ?_ NB140_138.out _; (with_reducible repeat first | apply aN | apply aD | apply aA); refine blk_put (cs := #[.slice none 0 0]) ?_ 0 _ rfl; exact bk BK140) hb); have n6_ := AM (below_step (hS) hb); clear BK132; clear BK133; clear BK134; clear BK138; clear BK140; clear HB; have HO147 := n0_; have BK132 := n1_; have BK133 := n2_; have BK134 := n3_; have BK138 := n4_; have BK140 := n5_; have HB := n6_; clear n0_ n1_ n2_ n3_ n4_ n5_ n6_; (try clear hb); (try clear ho0); obtain ⟨Ao163, co163, eo163⟩ := Kd.R_slice HO147.out; subst eo163; have hcz164_0 := bv BK140 0 (.slice none 0 0); have hfz164_0 := bz BK140 0) | ((with_reducible refine gc 41 rfl ?_); refine gl 125 Try.func41 #[.agg #[.slice Ao163 t145.length co163]] ?_; (with_reducible refine (spec_DiskOk.calls kj59 _ _ t145 true _ ?side1 ?side2 A145.out).mono ?_); (case side1 => refine (Kd.R_reads' (e := 67) (base := w.heap.size) (ok := fun k_ => (True ∧ k_ ≠ gb138)) (n := t145.length) (c := co163) ?_).2.2; exact (by exact (Kd.R_mono (Kd.R_far (p := ⟨gb140, 0, none⟩) (Kd.R_types HO147.out BK140.out (by decide)) (fun _ hk => hk.2) (.slice Ao163 t145.length co163)) (fun _ h_ => h_.1)))); (case side2 => exact (Kd.R_reads' HO147.out).2.1); rintro e w165 ⟨rfl, hb⟩; refine ⟨_, rfl, ?_⟩; have n0_ := AM (Kd.R_below (by exact (Kd.R_mono (Kd.R_far (p := ⟨gb140, 0, none⟩) (Kd.R_types HO147.out BK140.out (by decide)) (fun _ hk => hk.2) (.slice Ao163 t145.length co163)) (fun _ h_ => h_.1))) hb); have n1_ := AM (blk_below (g := gb132) (o := .cells #[.slice A0_0 l0_0.length c0_0] 30 (0, 0)) (be) hb); have n2_ := AM (blk_below (g := gb133) (o := .cells #[.int .i64 a1_0, .string a1_1, .string a1_2, .string a1_3] 41 (0, 0)) (be) hb); have n3_ := AM (blk_below (g := gb134) (o := .cells #[.slice none 0 0] 30 (0, 0)) (be) hb); have n4_ := AM (blk_below (g := gb138) (o := .cells #[.string x139000_59, .string x139001_59, .int .i64 (x139001_59.size : Int)] 67 (0, 0)) (be) hb); have n5_ := AM (blk_below (g := gb140) (o := .cells #[.slice Ao163 t145.length co163] 30 (0, 0)) (bp #[.slice none 0 0] 0) hb); have n6_ := AM (below_step (hS) hb); clear HO147; clear BK132; clear BK133; clear BK134; clear BK138; clear BK140; clear HB; have HO147 := n0_; have BK132 := n1_; have BK133 := n2_; have BK134 := n3_; have BK138 := n4_; have BK140 := n5_; have HB := n6_; clear n0_ n1_ n2_ n3_ n4_ n5_ n6_; (try clear hb); (try clear hk); have hcz166_0 := bv BK140 0 (.slice Ao163 t145.length co163); have hfz166_0 := bz BK140 0; have hcz167_0 := bv BK134 0 (.slice none 0 0); have hfz167_0 := bz BK134 0))
       refine bodyPost_ret (results_ct rfl _ _ gb134 30 #[.slice Ao163 t145.length co163] (0, 0) _ rfl (bp #[.slice none 0 0] 0) Try.underlying30 rfl (by kernel_rfl)) rfl ?_
       exact ⟨_, er, by exact Kd.R_mono (Kd.R_far (p := ⟨gb134, 0, none⟩) (Kd.R_types HO147.out BK134.out (by decide)) (fun _ hk => hk.2) (.slice Ao163 t145.length co163)) (fun _ hk => trivial), hS⟩
      replace c146 := Bool.eq_false_iff.mpr c146
      subst c146
      have H1 : (some (([] : List (S67)), false)) = some (r1, r2) := by rw [if_neg (show ¬ (false = true) by decide)] at H; exact H
      clear H
      have H := H1
      clear H1
      simp only [Option.some.injEq, Prod.mk.injEq] at H
      obtain ⟨rfl, rfl⟩ := H
      go_wp2_with (first | ((with_reducible refine gd 8 rfl ?_); refine bx (N := 8) (cs := #[.slice none 0 0]) (t := 30) ?_; intro gb140 hg w168 hbox hb; have BK140 := AM (hbox); have GW140 := AM (bt hg hS); have GE140 := AM (bt hg hS); replace HB := AM (below_step (hS) hb); have NB132_140 := AM (nl hg (bk BK132)); have NB140_132 := AM (ng hg (bk BK132)); replace BK132 := bw BK132 hb; have NB133_140 := AM (nl hg (bk BK133)); have NB140_133 := AM (ng hg (bk BK133)); replace BK133 := bw BK133 hb; have NB134_140 := AM (nl hg (bk BK134)); have NB140_134 := AM (ng hg (bk BK134)); replace BK134 := bw BK134 hb; have NB138_140 := AM (nl hg (bk BK138)); have NB140_138 := AM (ng hg (bk BK138)); replace BK138 := bw BK138 hb; clear hb hbox hg; have hnb169 := NB140_132.out; have hnc169 := NB132_140.out; have hnb170 := NB140_133.out; have hnc170 := NB133_140.out; have hnb171 := NB140_134.out; have hnc171 := NB134_140.out; have hnb172 := NB140_138.out; have hnc172 := NB138_140.out; have hcz173_0 := bv BK140 0 (.slice none 0 0); have hfz173_0 := bz BK140 0; have hnb174 := NB133_132.out; have hnc174 := NB132_133.out; have hnb175 := NB133_134.out; have hnc175 := NB134_133.out; have hnb176 := NB133_138.out; have hnc176 := NB138_133.out; have hcz177_0 := bv BK133 0 (.int .i64 a1_0); have hcz177_1 := bv BK133 1 (.string a1_1); have hcz177_2 := bv BK133 2 (.string a1_2); have hcz177_3 := bv BK133 3 (.string a1_3); have hfz177_0 := bz BK133 0; have hfz177_1 := bz BK133 1; have hfz177_2 := bz BK133 2; have hfz177_3 := bz BK133 3; have hnb178 := NB138_132.out; have hnc178 := NB132_138.out; have hnb179 := NB138_134.out; have hnc179 := NB134_138.out; have hcz180_0 := bv BK138 0 (.string x139000_59); have hcz180_1 := bv BK138 1 (.string x139001_59); have hcz180_2 := bv BK138 2 (.int .i64 x139002_59); have hfz180_0 := bz BK138 0; have hfz180_1 := bz BK138 1; have hfz180_2 := bz BK138 2; have hnb181 := NB132_134.out; have hnc181 := NB134_132.out; have hcz182_0 := bv BK132 0 (.slice A0_0 l0_0.length c0_0); have hfz182_0 := bz BK132 0) | ((with_reducible refine gc 46 rfl ?_); refine gl 82 Try.func46 #[.agg #[.slice A0_0 l0_0.length c0_0], .agg #[.string x139000_59, .string x139001_59, .int .i64 (x139001_59.size : Int)]] ?_; (with_reducible refine (spec_l03Put.calls kj59 _ _ l0_0 x139000_59 x139001_59 (x139001_59.size : Int) t145 _ ?side1 ?side2 A144.out).mono ?_); (case side1 => exact Kd.C_below HR0_0.out (hS)); (case side2 => exact HC0_0.out); rintro e w183 ⟨v146, rfl, ho0, hb⟩; refine ⟨_, rfl, ?_⟩; have n0_ := AM (Kd.R_lower (Kd.R_newB ho0 (g := gb138) (o := .cells #[.string x139000_59, .string x139001_59, .int .i64 (x139001_59.size : Int)] 67 (0, 0)) (bp #[.string x139000_59, .string x139001_59, .int .i64 x139002_59] 2)) (below_size (hS))); have n1_ := AM (blk_below (g := gb132) (o := .cells #[.slice A0_0 l0_0.length c0_0] 30 (0, 0)) (be) hb); have n2_ := AM (blk_below (g := gb133) (o := .cells #[.int .i64 a1_0, .string a1_1, .string a1_2, .string a1_3] 41 (0, 0)) (be) hb); have n3_ := AM (blk_below (g := gb134) (o := .cells #[.slice none 0 0] 30 (0, 0)) (be) hb); have n4_ := AM (blk_below (g := gb138) (o := .cells #[.string x139000_59, .string x139001_59, .int .i64 (x139001_59.size : Int)] 67 (0, 0)) (bp #[.string x139000_59, .string x139001_59, .int .i64 x139002_59] 2) hb); have n5_ := AM (blk_below (g := gb140) (o := .cells #[.slice none 0 0] 30 (0, 0)) (by (with_reducible repeat first | apply aN | apply aD | apply aA); refine blk_far ?_ NB140_138.out _; (with_reducible repeat first | apply aN | apply aD | apply aA); refine blk_put (cs := #[.slice none 0 0]) ?_ 0 _ rfl; exact bk BK140) hb); have n6_ := AM (below_step (hS) hb); clear BK132; clear BK133; clear BK134; clear BK138; clear BK140; clear HB; have HO147 := n0_; have BK132 := n1_; have BK133 := n2_; have BK134 := n3_; have BK138 := n4_; have BK140 := n5_; have HB := n6_; clear n0_ n1_ n2_ n3_ n4_ n5_ n6_; (try clear hb); (try clear ho0); obtain ⟨Ao184, co184, eo184⟩ := Kd.R_slice HO147.out; subst eo184; have hcz185_0 := bv BK140 0 (.slice none 0 0); have hfz185_0 := bz BK140 0) | ((with_reducible refine gc 41 rfl ?_); refine gl 125 Try.func41 #[.agg #[.slice Ao184 t145.length co184]] ?_; (with_reducible refine (spec_DiskOk.calls kj59 _ _ t145 false _ ?side1 ?side2 A145.out).mono ?_); (case side1 => refine (Kd.R_reads' (e := 67) (base := w.heap.size) (ok := fun k_ => (True ∧ k_ ≠ gb138)) (n := t145.length) (c := co184) ?_).2.2; exact (by exact (Kd.R_mono (Kd.R_far (p := ⟨gb140, 0, none⟩) (Kd.R_types HO147.out BK140.out (by decide)) (fun _ hk => hk.2) (.slice Ao184 t145.length co184)) (fun _ h_ => h_.1)))); (case side2 => exact (Kd.R_reads' HO147.out).2.1); rintro e w186 ⟨rfl, hb⟩; refine ⟨_, rfl, ?_⟩; have n0_ := AM (Kd.R_below (by exact (Kd.R_mono (Kd.R_far (p := ⟨gb140, 0, none⟩) (Kd.R_types HO147.out BK140.out (by decide)) (fun _ hk => hk.2) (.slice Ao184 t145.length co184)) (fun _ h_ => h_.1))) hb); have n1_ := AM (blk_below (g := gb132) (o := .cells #[.slice A0_0 l0_0.length c0_0] 30 (0, 0)) (be) hb); have n2_ := AM (blk_below (g := gb133) (o := .cells #[.int .i64 a1_0, .string a1_1, .string a1_2, .string a1_3] 41 (0, 0)) (be) hb); have n3_ := AM (blk_below (g := gb134) (o := .cells #[.slice none 0 0] 30 (0, 0)) (be) hb); have n4_ := AM (blk_below (g := gb138) (o := .cells #[.string x139000_59, .string x139001_59, .int .i64 (x139001_59.size : Int)] 67 (0, 0)) (be) hb); have n5_ := AM (blk_below (g := gb140) (o := .cells #[.slice Ao184 t145.length co184] 30 (0, 0)) (bp #[.slice none 0 0] 0) hb); have n6_ := AM (below_step (hS) hb); clear HO147; clear BK132; clear BK133; clear BK134; clear BK138; clear BK140; clear HB; have HO147 := n0_; have BK132 := n1_; have BK133 := n2_; have BK134 := n3_; have BK138 := n4_; have BK140 := n5_; have HB := n6_; clear n0_ n1_ n2_ n3_ n4_ n5_ n6_; (try clear hb); (try clear hk); have hcz187_0 := bv BK134 0 (.slice none 0 0); have hfz187_0 := bz BK134 0))
      refine bodyPost_ret (results_ct rfl _ _ gb134 30 #[.slice none 0 0] (0, 0) _ rfl (bp #[.slice none 0 0] 0) Try.underlying30 rfl (by kernel_rfl)) rfl ?_
      exact ⟨_, er, by first | exact Kd.R_nil _ _ _ _ _ | exact Kd.N_nil _ _ _ _ _ | exact Kd.V_nil _ _ _ _ _ | exact Kd.Q_nil _ _ _ _ _ | exact Kd.S_nil _ _ _ _ _, hS⟩
     rw [if_neg c143] at H
     have c143b0 : (a1_0 == 2) = false := beq_eq_false_iff_ne.mpr c143
     have c143b1 : (a1_0 != 2) = true := bne_iff_ne.mpr c143
     by_cases c188 : a1_0 = 3
     ·rw [if_pos c188] at H
      have c188b0 : (a1_0 == 3) = true := beq_iff_eq.mpr c188
      have c188b1 : (a1_0 != 3) = false := bne_eq_false_iff_eq.mpr c188
      clear c188
      have HC189 := AM H
      clear H
      go_upto_region 18 with (first | ((with_reducible refine gd 8 rfl ?_); refine bx (N := 8) (cs := #[.slice none 0 0]) (t := 30) ?_; intro gb140 hg w190 hbox hb; have BK140 := AM (hbox); have GW140 := AM (bt hg hS); have GE140 := AM (bt hg hS); replace HB := AM (below_step (hS) hb); have NB132_140 := AM (nl hg (bk BK132)); have NB140_132 := AM (ng hg (bk BK132)); replace BK132 := bw BK132 hb; have NB133_140 := AM (nl hg (bk BK133)); have NB140_133 := AM (ng hg (bk BK133)); replace BK133 := bw BK133 hb; have NB134_140 := AM (nl hg (bk BK134)); have NB140_134 := AM (ng hg (bk BK134)); replace BK134 := bw BK134 hb; have NB138_140 := AM (nl hg (bk BK138)); have NB140_138 := AM (ng hg (bk BK138)); replace BK138 := bw BK138 hb; clear hb hbox hg; have hnb191 := NB140_132.out; have hnc191 := NB132_140.out; have hnb192 := NB140_133.out; have hnc192 := NB133_140.out; have hnb193 := NB140_134.out; have hnc193 := NB134_140.out; have hnb194 := NB140_138.out; have hnc194 := NB138_140.out; have hcz195_0 := bv BK140 0 (.slice none 0 0); have hfz195_0 := bz BK140 0; have hnb196 := NB133_132.out; have hnc196 := NB132_133.out; have hnb197 := NB133_134.out; have hnc197 := NB134_133.out; have hnb198 := NB133_138.out; have hnc198 := NB138_133.out; have hcz199_0 := bv BK133 0 (.int .i64 a1_0); have hcz199_1 := bv BK133 1 (.string a1_1); have hcz199_2 := bv BK133 2 (.string a1_2); have hcz199_3 := bv BK133 3 (.string a1_3); have hfz199_0 := bz BK133 0; have hfz199_1 := bz BK133 1; have hfz199_2 := bz BK133 2; have hfz199_3 := bz BK133 3))
      (try simp only [Act.put, qT, q0, qS])
      go_cut [105] (fun v105 wc => ∃ (kq : Nat) (x105_188 : Bool), v105 = .bool x105_188 ∧ Aside0 (spec_DoAct.j2 kq x105_188 l0_0 a1_0 a1_1 a1_2 a1_3 x139000_59 x139001_59 x139002_59 = some (r1, r2)) ∧ Aside0 (kq ≤ kj59) ∧ Aside0 (wc.heap[gb132]? = some (.cells #[(.slice A0_0 l0_0.length c0_0)] 30 (0, 0))) ∧ Aside0 (wc.heap[gb133]? = some (.cells #[.int .i64 a1_0, .string a1_1, .string a1_2, .string a1_3] 41 (0, 0))) ∧ Aside0 (wc.heap[gb134]? = some (.cells #[(.slice none 0 0)] 30 (0, 0))) ∧ Aside0 (wc.heap[gb138]? = some (.cells #[.string x139000_59, .string x139001_59, .int .i64 x139002_59] 67 (0, 0))) ∧ Aside0 (wc.heap[gb140]? = some (.cells #[(.slice none 0 0)] 30 (0, 0))) ∧ Aside0 (Below w.heap.size w wc))
      case first =>
       have H := HC189.out
       clear HC189
       by_cases c200 : x139002_59 < (x139001_59.size : Int)
       ·rw [if_pos c200] at H
        have c200b0 : decide (x139002_59 < (x139001_59.size : Int)) = true := decide_eq_true c200
        clear c200
        (first | rw [c200b0] | (simp only [i64_w, i32_w]; rw [c200b0]) | rw [c200b1] | skip)
        have H' := AM H
        clear H
        have hnb201 := NB138_132.out
        have hnc201 := NB132_138.out
        have hnb202 := NB138_133.out
        have hnc202 := NB133_138.out
        have hnb203 := NB138_134.out
        have hnc203 := NB134_138.out
        have hnb204 := NB138_140.out
        have hnc204 := NB140_138.out
        have hcz205_0 := bv BK138 0 (.string x139000_59)
        have hcz205_1 := bv BK138 1 (.string x139001_59)
        have hcz205_2 := bv BK138 2 (.int .i64 x139002_59)
        have hfz205_0 := bz BK138 0
        have hfz205_1 := bz BK138 1
        have hfz205_2 := bz BK138 2
        go_wp2
        go_meet
        case rel => exact ⟨_, (true), (by first | rfl | (simp; done) | (simp [*]; done) | (generalize ByteArray.toList a1_2 = q_; cases q_ <;> first | rfl | (simp; done))), H', ⟨by have := HJ2.out; have := HJ59.out; first | omega | exact Nat.le_refl _⟩, ⟨be⟩, ⟨be⟩, ⟨be⟩, ⟨be⟩, ⟨bp #[.slice none 0 0] 0⟩, ⟨hS⟩⟩
       rw [if_neg c200] at H
       have c200b0 : decide (x139002_59 < (x139001_59.size : Int)) = false := decide_eq_false c200
       clear c200
       (first | rw [c200b0] | (simp only [i64_w, i32_w]; rw [c200b0]) | rw [c200b1] | skip)
       by_cases c206 : a1_3.toList = a1_1.toList
       ·rw [if_pos c206] at H
        have c206b0 : (a1_3.toList == a1_1.toList) = true := beq_iff_eq.mpr c206
        have c206b1 : (a1_3.toList != a1_1.toList) = false := bne_eq_false_iff_eq.mpr c206
        clear c206
        have H' := AM H
        clear H
        have hnb207 := NB138_132.out
        have hnc207 := NB132_138.out
        have hnb208 := NB138_133.out
        have hnc208 := NB133_138.out
        have hnb209 := NB138_134.out
        have hnc209 := NB134_138.out
        have hnb210 := NB138_140.out
        have hnc210 := NB140_138.out
        have hcz211_0 := bv BK138 0 (.string x139000_59)
        have hcz211_1 := bv BK138 1 (.string x139001_59)
        have hcz211_2 := bv BK138 2 (.int .i64 x139002_59)
        have hfz211_0 := bz BK138 0
        have hfz211_1 := bz BK138 1
        have hfz211_2 := bz BK138 2
        have hnb212 := NB133_132.out
        have hnc212 := NB132_133.out
        have hnb213 := NB133_134.out
        have hnc213 := NB134_133.out
        have hnb214 := NB133_140.out
        have hnc214 := NB140_133.out
        have hcz215_0 := bv BK133 0 (.int .i64 a1_0)
        have hcz215_1 := bv BK133 1 (.string a1_1)
        have hcz215_2 := bv BK133 2 (.string a1_2)
        have hcz215_3 := bv BK133 3 (.string a1_3)
        have hfz215_0 := bz BK133 0
        have hfz215_1 := bz BK133 1
        have hfz215_2 := bz BK133 2
        have hfz215_3 := bz BK133 3
        go_wp2
        go_meet
        case rel => exact ⟨_, (true), (by first | rfl | (simp; done) | (simp [*]; done) | (generalize ByteArray.toList a1_2 = q_; cases q_ <;> first | rfl | (simp; done))), H', ⟨by have := HJ2.out; have := HJ59.out; first | omega | exact Nat.le_refl _⟩, ⟨be⟩, ⟨be⟩, ⟨be⟩, ⟨be⟩, ⟨bp #[.slice none 0 0] 0⟩, ⟨hS⟩⟩
       rw [if_neg c206] at H
       have c206b0 : (a1_3.toList == a1_1.toList) = false := beq_eq_false_iff_ne.mpr c206
       have c206b1 : (a1_3.toList != a1_1.toList) = true := bne_iff_ne.mpr c206
       replace H := bm H
       obtain ⟨t149, A2160, H⟩ := H
       replace H : (spec_DoAct.j2 kj59 (!t149) l0_0 a1_0 a1_1 a1_2 a1_3 x139000_59 x139001_59 x139002_59) = some (r1, r2) := H
       have A216 := AM A2160
       clear A2160
       have H' := AM H
       clear H
       have hnb217 := NB138_132.out
       have hnc217 := NB132_138.out
       have hnb218 := NB138_133.out
       have hnc218 := NB133_138.out
       have hnb219 := NB138_134.out
       have hnc219 := NB134_138.out
       have hnb220 := NB138_140.out
       have hnc220 := NB140_138.out
       have hcz221_0 := bv BK138 0 (.string x139000_59)
       have hcz221_1 := bv BK138 1 (.string x139001_59)
       have hcz221_2 := bv BK138 2 (.int .i64 x139002_59)
       have hfz221_0 := bz BK138 0
       have hfz221_1 := bz BK138 1
       have hfz221_2 := bz BK138 2
       have hnb222 := NB133_132.out
       have hnc222 := NB132_133.out
       have hnb223 := NB133_134.out
       have hnc223 := NB134_133.out
       have hnb224 := NB133_140.out
       have hnc224 := NB140_133.out
       have hcz225_0 := bv BK133 0 (.int .i64 a1_0)
       have hcz225_1 := bv BK133 1 (.string a1_1)
       have hcz225_2 := bv BK133 2 (.string a1_2)
       have hcz225_3 := bv BK133 3 (.string a1_3)
       have hfz225_0 := bz BK133 0
       have hfz225_1 := bz BK133 1
       have hfz225_2 := bz BK133 2
       have hfz225_3 := bz BK133 3
       go_wp2_with (first | (go_at_call 45; (with_reducible refine (spec_l03Name.calls a1_3 t149 _ A216.out).mono ?_); rintro e w' ⟨rfl, ⟨nd, rfl⟩⟩))
       go_meet
       case rel => exact ⟨_, (!t149), (by first | rfl | (simp; done) | (simp [*]; done) | (generalize ByteArray.toList a1_2 = q_; cases q_ <;> first | rfl | (simp; done))), H', ⟨by have := HJ2.out; have := HJ59.out; first | omega | exact Nat.le_refl _⟩, ⟨be⟩, ⟨be⟩, ⟨be⟩, ⟨be⟩, ⟨bp #[.slice none 0 0] 0⟩, ⟨hS⟩⟩
      case rest =>
       clear HC189
       obtain ⟨kq, x105_188, rfl, HA, HJ188, BK132, BK133, BK134, BK138, BK140, HB⟩ := hcut
       cases kq with
       | zero => exact absurd HA.out (by simp [spec_DoAct.j2])
       | succ kj188 =>
        have H := HA.out
        clear HA
        simp only [spec_DoAct.j2] at H
        by_cases c226 : x105_188 = true
        ·subst c226
         have H1 : (some (([] : List (S67)), false)) = some (r1, r2) := by rw [if_pos rfl] at H; exact H
         clear H
         have H := H1
         clear H1
         simp only [Option.some.injEq, Prod.mk.injEq] at H
         obtain ⟨rfl, rfl⟩ := H
         have hnb227 := NB134_132.out
         have hnc227 := NB132_134.out
         have hnb228 := NB134_133.out
         have hnc228 := NB133_134.out
         have hnb229 := NB134_138.out
         have hnc229 := NB138_134.out
         have hnb230 := NB134_140.out
         have hnc230 := NB140_134.out
         have hcz231_0 := bv BK134 0 (.slice none 0 0)
         have hfz231_0 := bz BK134 0
         go_wp2
         refine bodyPost_ret (results_ct rfl _ _ gb134 30 #[.slice none 0 0] (0, 0) _ rfl (bp #[.slice none 0 0] 0) Try.underlying30 rfl (by kernel_rfl)) rfl ?_
         exact ⟨_, er, by first | exact Kd.R_nil _ _ _ _ _ | exact Kd.N_nil _ _ _ _ _ | exact Kd.V_nil _ _ _ _ _ | exact Kd.Q_nil _ _ _ _ _ | exact Kd.S_nil _ _ _ _ _, hS⟩
        replace c226 := Bool.eq_false_iff.mpr c226
        subst c226
        have H1 : ((spec_l03Without.f kj188 l0_0 a1_1).bind fun t150 => ((spec_l03Put.f kj188 t150 a1_3 x139001_59 x139002_59).bind fun t153 => ((spec_DiskOk.f kj188 t153).bind fun t156 => (if t156 = true then (some (t153, true)) else (some (([] : List (S67)), false)))))) = some (r1, r2) := by rw [if_neg (show ¬ (false = true) by decide)] at H; exact H
        clear H
        have H := H1
        clear H1
        replace H := bm H
        obtain ⟨t150, A2320, H⟩ := H
        replace H : ((spec_l03Put.f kj188 t150 a1_3 x139001_59 x139002_59).bind fun t153 => ((spec_DiskOk.f kj188 t153).bind fun t156 => (if t156 = true then (some (t153, true)) else (some (([] : List (S67)), false))))) = some (r1, r2) := H
        have A232 := AM A2320
        clear A2320
        replace H := bm H
        obtain ⟨t153, A2330, H⟩ := H
        replace H : ((spec_DiskOk.f kj188 t153).bind fun t156 => (if t156 = true then (some (t153, true)) else (some (([] : List (S67)), false)))) = some (r1, r2) := H
        have A233 := AM A2330
        clear A2330
        replace H := bm H
        obtain ⟨t156, A2340, H⟩ := H
        replace H : (if t156 = true then (some (t153, true)) else (some (([] : List (S67)), false))) = some (r1, r2) := H
        have A234 := AM A2340
        clear A2340
        by_cases c235 : t156 = true
        ·subst c235
         have H1 : (some (t153, true)) = some (r1, r2) := by rw [if_pos rfl] at H; exact H
         clear H
         have H := H1
         clear H1
         simp only [Option.some.injEq, Prod.mk.injEq] at H
         obtain ⟨rfl, rfl⟩ := H
         have hnb236 := NB133_132.out
         have hnc236 := NB132_133.out
         have hnb237 := NB133_134.out
         have hnc237 := NB134_133.out
         have hnb238 := NB133_138.out
         have hnc238 := NB138_133.out
         have hnb239 := NB133_140.out
         have hnc239 := NB140_133.out
         have hcz240_0 := bv BK133 0 (.int .i64 a1_0)
         have hcz240_1 := bv BK133 1 (.string a1_1)
         have hcz240_2 := bv BK133 2 (.string a1_2)
         have hcz240_3 := bv BK133 3 (.string a1_3)
         have hfz240_0 := bz BK133 0
         have hfz240_1 := bz BK133 1
         have hfz240_2 := bz BK133 2
         have hfz240_3 := bz BK133 3
         have hnb241 := NB138_132.out
         have hnc241 := NB132_138.out
         have hnb242 := NB138_134.out
         have hnc242 := NB134_138.out
         have hnb243 := NB138_140.out
         have hnc243 := NB140_138.out
         have hcz244_0 := bv BK138 0 (.string x139000_59)
         have hcz244_1 := bv BK138 1 (.string x139001_59)
         have hcz244_2 := bv BK138 2 (.int .i64 x139002_59)
         have hfz244_0 := bz BK138 0
         have hfz244_1 := bz BK138 1
         have hfz244_2 := bz BK138 2
         try go_wp2
         have n0_ : Aside0 ((wc.setCell ⟨gb138, 0, none⟩ (.string a1_3)).heap[gb132]? = some (.cells #[.slice A0_0 l0_0.length c0_0] 30 (0, 0))) := ⟨be⟩
         have n1_ : Aside0 ((wc.setCell ⟨gb138, 0, none⟩ (.string a1_3)).heap[gb133]? = some (.cells #[.int .i64 a1_0, .string a1_1, .string a1_2, .string a1_3] 41 (0, 0))) := ⟨be⟩
         have n2_ : Aside0 ((wc.setCell ⟨gb138, 0, none⟩ (.string a1_3)).heap[gb134]? = some (.cells #[.slice none 0 0] 30 (0, 0))) := ⟨be⟩
         have n3_ : Aside0 ((wc.setCell ⟨gb138, 0, none⟩ (.string a1_3)).heap[gb138]? = some (.cells #[.string a1_3, .string x139001_59, .int .i64 x139002_59] 67 (0, 0))) := ⟨bp #[.string x139000_59, .string x139001_59, .int .i64 x139002_59] 0⟩
         have n4_ : Aside0 ((wc.setCell ⟨gb138, 0, none⟩ (.string a1_3)).heap[gb140]? = some (.cells #[.slice none 0 0] 30 (0, 0))) := ⟨be⟩
         have n5_ : Aside0 (Below w.heap.size w (wc.setCell ⟨gb138, 0, none⟩ (.string a1_3))) := ⟨hS⟩
         (try clear BK132)
         (try clear BK133)
         (try clear BK134)
         (try clear BK138)
         (try clear BK140)
         (try clear HB)
         generalize (wc.setCell ⟨gb138, 0, none⟩ (.string a1_3)) = w245 at n0_ n1_ n2_ n3_ n4_ n5_ ⊢
         have BK132 := n0_
         have BK133 := n1_
         have BK134 := n2_
         have BK138 := n3_
         have BK140 := n4_
         have HB := n5_
         clear n0_ n1_ n2_ n3_ n4_ n5_
         replace BK132 := AM (blk_drew BK132.out)
         replace BK133 := AM (blk_drew BK133.out)
         replace BK134 := AM (blk_drew BK134.out)
         replace BK138 := AM (blk_drew BK138.out)
         replace BK140 := AM (blk_drew BK140.out)
         replace HB := AM (below_drew1 HB.out)
         refine sr 7 (fun w' => w'.cell? ⟨gb132, 0, none⟩ = some (.slice A0_0 l0_0.length c0_0) ∧ w'.cell? ⟨gb133, 0, none⟩ = some (.int .i64 a1_0) ∧ w'.cell? ⟨gb133, 1, none⟩ = some (.string a1_1) ∧ w'.cell? ⟨gb133, 2, none⟩ = some (.string a1_2) ∧ w'.cell? ⟨gb133, 3, none⟩ = some (.string a1_3) ∧ w'.cell? ⟨gb138, 0, none⟩ = some (.string a1_3) ∧ w'.cell? ⟨gb138, 1, none⟩ = some (.string x139001_59) ∧ w'.cell? ⟨gb138, 2, none⟩ = some (.int .i64 x139002_59)) [] ⟨bc BK132 0, bc BK133 0, bc BK133 1, bc BK133 2, bc BK133 3, bc BK138 0, bc BK138 1, bc BK138 2⟩ (fun hHeld => ?_)
         generalize w245.drew = w246 at BK132 BK133 BK134 BK138 BK140 HB hHeld ⊢
         refine pu 1 111 ?_; refine tu 0 110 ?_; refine tu 2 112 ?_; refine tu 4 114 ?_
         refine ou 3 (some 113) fun K hK => ?_
         refine goes_ Try.func47 (by kernel_rfl) rfl #[.agg #[.slice A0_0 l0_0.length c0_0], .string a1_1] (by rfl) rfl rfl am ?_
         with_reducible refine (spec_l03Without.calls kj188 _ _ l0_0 a1_1 t150 _ ?side1 ?side2 A232.out).mono ?_
         (case side1 => repeat (first | exact (Kd.C_below HR0_0.out HB.out) | (with_reducible first | refine cA ?_ _ | refine cN ?_ _ | refine cD ?_)))
         (case side2 => exact HC0_0.out)
         rintro e w247 ⟨v151, rfl, ho0, hb⟩
         refine ⟨_, rfl, ?_⟩
         have HO152 := AM (Kd.R_lower (Kd.R_newB ho0 (g := gb138) (o := .cells #[.string a1_3, .string x139001_59, .int .i64 x139002_59] 67 (0, 0)) (bk BK138)) (below_size (hS)))
         replace BK132 := bw BK132 hb
         replace BK133 := bw BK133 hb
         replace BK134 := bw BK134 hb
         replace BK138 := bw BK138 hb
         replace BK140 := bw BK140 hb
         replace HB := AM (below_step (hS) hb)
         (try clear hb)
         (try clear hb2)
         (try clear hk)
         (try clear hi)
         (try clear ho0)
         obtain ⟨Ao248, co248, eo248⟩ := Kd.R_slice HO152.out
         (first | subst eo248 | (injection eo248 with f1_ f2_ f3_; have f4_ := f1_.symm; have f5_ := f3_.symm; clear f1_ f2_ f3_; subst f4_; subst f5_))
         refine hK.out _ _ ⟨bc BK132 0, bc BK133 0, bc BK133 1, bc BK133 2, bc BK133 3, bc BK138 0, bc BK138 1, bc BK138 2⟩ (fun hHeld => ?_)
         clear hK K
         refine nr ?_
         refine ou 5 (some 115) fun K hK => ?_
         refine goes_ Try.func46 (by kernel_rfl) rfl #[.agg #[.slice Ao248 t150.length co248], .agg #[.string a1_3, .string x139001_59, .int .i64 x139002_59]] (by rfl) rfl rfl am ?_
         with_reducible refine (spec_l03Put.calls kj188 _ _ t150 a1_3 x139001_59 x139002_59 t153 _ ?side1 ?side2 A233.out).mono ?_
         (case side1 => repeat (first | exact (Kd.R_reads' HO152.out).2.2 | (with_reducible first | refine cA ?_ _ | refine cN ?_ _ | refine cD ?_)))
         (case side2 => exact (Kd.R_reads' HO152.out).2.1)
         rintro e w249 ⟨v154, rfl, ho0, hb⟩
         refine ⟨_, rfl, ?_⟩
         have HO155 := AM (Kd.R_lower (Kd.R_newB (Kd.R_new' ho0 (Kd.R_lt (by exact HO152.out))) (g := gb138) (o := .cells #[.string a1_3, .string x139001_59, .int .i64 x139002_59] 67 (0, 0)) (bk BK138)) (below_size (hS)))
         replace HO152 := AM (Kd.R_elder' (by exact HO152.out) (Kd.R_base ho0) hb)
         replace BK132 := bw BK132 hb
         replace BK133 := bw BK133 hb
         replace BK134 := bw BK134 hb
         replace BK138 := bw BK138 hb
         replace BK140 := bw BK140 hb
         replace HB := AM (below_step (hS) hb)
         (try clear hb)
         (try clear hb2)
         (try clear hk)
         (try clear hi)
         (try clear ho0)
         obtain ⟨Ao250, co250, eo250⟩ := Kd.R_slice HO155.out
         (first | subst eo250 | (injection eo250 with f1_ f2_ f3_; have f4_ := f1_.symm; have f5_ := f3_.symm; clear f1_ f2_ f3_; subst f4_; subst f5_))
         refine hK.out _ _ ⟨bc BK132 0, bc BK133 0, bc BK133 1, bc BK133 2, bc BK133 3, bc BK138 0, bc BK138 1, bc BK138 2⟩ (fun hHeld => ?_)
         clear hK K
         refine nr ?_
         refine ou 6 none fun K hK => ?_
         have hs251 : w249.cell? ⟨gb140, 0, none⟩ = some (.slice none 0 0) := bc BK140 0
         have hfs251 := bz BK140 0
         have hns251_0 := NB132_140.out
         have hns251_1 := NB133_140.out
         have hns251_2 := NB134_140.out
         have hns251_3 := NB138_140.out
         have hms251_0 := NB140_132.out
         have hms251_1 := NB140_133.out
         have hms251_2 := NB140_134.out
         have hms251_3 := NB140_138.out
         refine sk ?_
         refine hK.out _ _ ⟨((cell_far (p := ⟨gb140, _, none⟩) NB132_140.out _).trans (hHeld.1)), ((cell_far (p := ⟨gb140, _, none⟩) NB133_140.out _).trans (hHeld.2.1)), ((cell_far (p := ⟨gb140, _, none⟩) NB133_140.out _).trans (hHeld.2.2.1)), ((cell_far (p := ⟨gb140, _, none⟩) NB133_140.out _).trans (hHeld.2.2.2.1)), ((cell_far (p := ⟨gb140, _, none⟩) NB133_140.out _).trans (hHeld.2.2.2.2.1)), ((cell_far (p := ⟨gb140, _, none⟩) NB138_140.out _).trans (hHeld.2.2.2.2.2.1)), ((cell_far (p := ⟨gb140, _, none⟩) NB138_140.out _).trans (hHeld.2.2.2.2.2.2.1)), ((cell_far (p := ⟨gb140, _, none⟩) NB138_140.out _).trans (hHeld.2.2.2.2.2.2.2))⟩ (fun hHeld => ?_)
         clear hK K
         refine done_ (by kernel_rfl) ?_
         have hnb252 := NB140_132.out
         have hnc252 := NB132_140.out
         have hnb253 := NB140_134.out
         have hnc253 := NB134_140.out
         have hcz254_0 := bv BK140 0 (.slice none 0 0)
         have hfz254_0 := bz BK140 0
         try go_wp2_with (first | ((with_reducible refine gc 41 rfl ?_); refine gl 125 Try.func41 #[.agg #[.slice Ao250 t153.length co250]] ?_; (with_reducible refine (spec_DiskOk.calls kj188 _ _ t153 true _ ?side1 ?side2 A234.out).mono ?_); (case side1 => refine (Kd.R_reads' (e := 67) (base := w.heap.size) (ok := fun k_ => ((True ∧ some k_ ≠ (.slice Ao248 t150.length co248 : Value).ownBlock) ∧ k_ ≠ gb138)) (n := t153.length) (c := co250) ?_).2.2; exact (by exact (Kd.R_mono (Kd.R_far (p := ⟨gb140, 0, none⟩) (Kd.R_types HO155.out BK140.out (by decide)) (fun _ hk => hk.2) (.slice Ao250 t153.length co250)) (fun _ h_ => h_.1)))); (case side2 => exact (Kd.R_reads' HO155.out).2.1); rintro e w255 ⟨rfl, hb⟩; refine ⟨_, rfl, ?_⟩; have n0_ := AM (Kd.R_below (by exact (Kd.R_mono (Kd.R_far (p := ⟨gb140, 0, none⟩) (Kd.R_types HO152.out BK140.out (by decide)) (fun _ hk => hk.2) (.slice Ao250 t153.length co250)) (fun _ h_ => h_.1))) hb); have n1_ := AM (Kd.R_below (by exact (Kd.R_mono (Kd.R_far (p := ⟨gb140, 0, none⟩) (Kd.R_types HO155.out BK140.out (by decide)) (fun _ hk => hk.2) (.slice Ao250 t153.length co250)) (fun _ h_ => h_.1))) hb); have n2_ := AM (blk_below (g := gb132) (o := .cells #[.slice A0_0 l0_0.length c0_0] 30 (0, 0)) (be) hb); have n3_ := AM (blk_below (g := gb133) (o := .cells #[.int .i64 a1_0, .string a1_1, .string a1_2, .string a1_3] 41 (0, 0)) (be) hb); have n4_ := AM (blk_below (g := gb134) (o := .cells #[.slice none 0 0] 30 (0, 0)) (be) hb); have n5_ := AM (blk_below (g := gb138) (o := .cells #[.string a1_3, .string x139001_59, .int .i64 x139002_59] 67 (0, 0)) (be) hb); have n6_ := AM (blk_below (g := gb140) (o := .cells #[.slice Ao250 t153.length co250] 30 (0, 0)) (bp #[.slice none 0 0] 0) hb); have n7_ := AM (below_step (hS) hb); clear HO152; clear HO155; clear BK132; clear BK133; clear BK134; clear BK138; clear BK140; clear HB; have HO152 := n0_; have HO155 := n1_; have BK132 := n2_; have BK133 := n3_; have BK134 := n4_; have BK138 := n5_; have BK140 := n6_; have HB := n7_; clear n0_ n1_ n2_ n3_ n4_ n5_ n6_ n7_; (try clear hb); (try clear hb2); (try clear hk); (try clear hi); have hcz256_0 := bv BK140 0 (.slice Ao250 t153.length co250); have hfz256_0 := bz BK140 0; have hnb257 := NB134_132.out; have hnc257 := NB132_134.out; have hcz258_0 := bv BK134 0 (.slice none 0 0); have hfz258_0 := bz BK134 0))
         refine bodyPost_ret (results_ct rfl _ _ gb134 30 #[.slice Ao250 t153.length co250] (0, 0) _ rfl (bp #[.slice none 0 0] 0) Try.underlying30 rfl (by kernel_rfl)) rfl ?_
         exact ⟨_, er, by exact Kd.R_mono (Kd.R_far (p := ⟨gb134, 0, none⟩) (Kd.R_types HO155.out BK134.out (by decide)) (fun _ hk => hk.2) (.slice Ao250 t153.length co250)) (fun _ hk => trivial), hS⟩
        replace c235 := Bool.eq_false_iff.mpr c235
        subst c235
        have H1 : (some (([] : List (S67)), false)) = some (r1, r2) := by rw [if_neg (show ¬ (false = true) by decide)] at H; exact H
        clear H
        have H := H1
        clear H1
        simp only [Option.some.injEq, Prod.mk.injEq] at H
        obtain ⟨rfl, rfl⟩ := H
        have hnb259 := NB133_132.out
        have hnc259 := NB132_133.out
        have hnb260 := NB133_134.out
        have hnc260 := NB134_133.out
        have hnb261 := NB133_138.out
        have hnc261 := NB138_133.out
        have hnb262 := NB133_140.out
        have hnc262 := NB140_133.out
        have hcz263_0 := bv BK133 0 (.int .i64 a1_0)
        have hcz263_1 := bv BK133 1 (.string a1_1)
        have hcz263_2 := bv BK133 2 (.string a1_2)
        have hcz263_3 := bv BK133 3 (.string a1_3)
        have hfz263_0 := bz BK133 0
        have hfz263_1 := bz BK133 1
        have hfz263_2 := bz BK133 2
        have hfz263_3 := bz BK133 3
        have hnb264 := NB138_132.out
        have hnc264 := NB132_138.out
        have hnb265 := NB138_134.out
        have hnc265 := NB134_138.out
        have hnb266 := NB138_140.out
        have hnc266 := NB140_138.out
        have hcz267_0 := bv BK138 0 (.string x139000_59)
        have hcz267_1 := bv BK138 1 (.string x139001_59)
        have hcz267_2 := bv BK138 2 (.int .i64 x139002_59)
        have hfz267_0 := bz BK138 0
        have hfz267_1 := bz BK138 1
        have hfz267_2 := bz BK138 2
        try go_wp2
        have n0_ : Aside0 ((wc.setCell ⟨gb138, 0, none⟩ (.string a1_3)).heap[gb132]? = some (.cells #[.slice A0_0 l0_0.length c0_0] 30 (0, 0))) := ⟨be⟩
        have n1_ : Aside0 ((wc.setCell ⟨gb138, 0, none⟩ (.string a1_3)).heap[gb133]? = some (.cells #[.int .i64 a1_0, .string a1_1, .string a1_2, .string a1_3] 41 (0, 0))) := ⟨be⟩
        have n2_ : Aside0 ((wc.setCell ⟨gb138, 0, none⟩ (.string a1_3)).heap[gb134]? = some (.cells #[.slice none 0 0] 30 (0, 0))) := ⟨be⟩
        have n3_ : Aside0 ((wc.setCell ⟨gb138, 0, none⟩ (.string a1_3)).heap[gb138]? = some (.cells #[.string a1_3, .string x139001_59, .int .i64 x139002_59] 67 (0, 0))) := ⟨bp #[.string x139000_59, .string x139001_59, .int .i64 x139002_59] 0⟩
        have n4_ : Aside0 ((wc.setCell ⟨gb138, 0, none⟩ (.string a1_3)).heap[gb140]? = some (.cells #[.slice none 0 0] 30 (0, 0))) := ⟨be⟩
        have n5_ : Aside0 (Below w.heap.size w (wc.setCell ⟨gb138, 0, none⟩ (.string a1_3))) := ⟨hS⟩
        (try clear BK132)
        (try clear BK133)
        (try clear BK134)
        (try clear BK138)
        (try clear BK140)
        (try clear HB)
        generalize (wc.setCell ⟨gb138, 0, none⟩ (.string a1_3)) = w268 at n0_ n1_ n2_ n3_ n4_ n5_ ⊢
        have BK132 := n0_
        have BK133 := n1_
        have BK134 := n2_
        have BK138 := n3_
        have BK140 := n4_
        have HB := n5_
        clear n0_ n1_ n2_ n3_ n4_ n5_
        replace BK132 := AM (blk_drew BK132.out)
        replace BK133 := AM (blk_drew BK133.out)
        replace BK134 := AM (blk_drew BK134.out)
        replace BK138 := AM (blk_drew BK138.out)
        replace BK140 := AM (blk_drew BK140.out)
        replace HB := AM (below_drew1 HB.out)
        refine sr 7 (fun w' => w'.cell? ⟨gb132, 0, none⟩ = some (.slice A0_0 l0_0.length c0_0) ∧ w'.cell? ⟨gb133, 0, none⟩ = some (.int .i64 a1_0) ∧ w'.cell? ⟨gb133, 1, none⟩ = some (.string a1_1) ∧ w'.cell? ⟨gb133, 2, none⟩ = some (.string a1_2) ∧ w'.cell? ⟨gb133, 3, none⟩ = some (.string a1_3) ∧ w'.cell? ⟨gb138, 0, none⟩ = some (.string a1_3) ∧ w'.cell? ⟨gb138, 1, none⟩ = some (.string x139001_59) ∧ w'.cell? ⟨gb138, 2, none⟩ = some (.int .i64 x139002_59)) [] ⟨bc BK132 0, bc BK133 0, bc BK133 1, bc BK133 2, bc BK133 3, bc BK138 0, bc BK138 1, bc BK138 2⟩ (fun hHeld => ?_)
        generalize w268.drew = w269 at BK132 BK133 BK134 BK138 BK140 HB hHeld ⊢
        refine pu 1 111 ?_; refine tu 0 110 ?_; refine tu 2 112 ?_; refine tu 4 114 ?_
        refine ou 3 (some 113) fun K hK => ?_
        refine goes_ Try.func47 (by kernel_rfl) rfl #[.agg #[.slice A0_0 l0_0.length c0_0], .string a1_1] (by rfl) rfl rfl am ?_
        with_reducible refine (spec_l03Without.calls kj188 _ _ l0_0 a1_1 t150 _ ?side1 ?side2 A232.out).mono ?_
        (case side1 => repeat (first | exact (Kd.C_below HR0_0.out HB.out) | (with_reducible first | refine cA ?_ _ | refine cN ?_ _ | refine cD ?_)))
        (case side2 => exact HC0_0.out)
        rintro e w270 ⟨v151, rfl, ho0, hb⟩
        refine ⟨_, rfl, ?_⟩
        have HO152 := AM (Kd.R_lower (Kd.R_newB ho0 (g := gb138) (o := .cells #[.string a1_3, .string x139001_59, .int .i64 x139002_59] 67 (0, 0)) (bk BK138)) (below_size (hS)))
        replace BK132 := bw BK132 hb
        replace BK133 := bw BK133 hb
        replace BK134 := bw BK134 hb
        replace BK138 := bw BK138 hb
        replace BK140 := bw BK140 hb
        replace HB := AM (below_step (hS) hb)
        (try clear hb)
        (try clear hb2)
        (try clear hk)
        (try clear hi)
        (try clear ho0)
        obtain ⟨Ao271, co271, eo271⟩ := Kd.R_slice HO152.out
        (first | subst eo271 | (injection eo271 with f1_ f2_ f3_; have f4_ := f1_.symm; have f5_ := f3_.symm; clear f1_ f2_ f3_; subst f4_; subst f5_))
        refine hK.out _ _ ⟨bc BK132 0, bc BK133 0, bc BK133 1, bc BK133 2, bc BK133 3, bc BK138 0, bc BK138 1, bc BK138 2⟩ (fun hHeld => ?_)
        clear hK K
        refine nr ?_
        refine ou 5 (some 115) fun K hK => ?_
        refine goes_ Try.func46 (by kernel_rfl) rfl #[.agg #[.slice Ao271 t150.length co271], .agg #[.string a1_3, .string x139001_59, .int .i64 x139002_59]] (by rfl) rfl rfl am ?_
        with_reducible refine (spec_l03Put.calls kj188 _ _ t150 a1_3 x139001_59 x139002_59 t153 _ ?side1 ?side2 A233.out).mono ?_
        (case side1 => repeat (first | exact (Kd.R_reads' HO152.out).2.2 | (with_reducible first | refine cA ?_ _ | refine cN ?_ _ | refine cD ?_)))
        (case side2 => exact (Kd.R_reads' HO152.out).2.1)
        rintro e w272 ⟨v154, rfl, ho0, hb⟩
        refine ⟨_, rfl, ?_⟩
        have HO155 := AM (Kd.R_lower (Kd.R_newB (Kd.R_new' ho0 (Kd.R_lt (by exact HO152.out))) (g := gb138) (o := .cells #[.string a1_3, .string x139001_59, .int .i64 x139002_59] 67 (0, 0)) (bk BK138)) (below_size (hS)))
        replace HO152 := AM (Kd.R_elder' (by exact HO152.out) (Kd.R_base ho0) hb)
        replace BK132 := bw BK132 hb
        replace BK133 := bw BK133 hb
        replace BK134 := bw BK134 hb
        replace BK138 := bw BK138 hb
        replace BK140 := bw BK140 hb
        replace HB := AM (below_step (hS) hb)
        (try clear hb)
        (try clear hb2)
        (try clear hk)
        (try clear hi)
        (try clear ho0)
        obtain ⟨Ao273, co273, eo273⟩ := Kd.R_slice HO155.out
        (first | subst eo273 | (injection eo273 with f1_ f2_ f3_; have f4_ := f1_.symm; have f5_ := f3_.symm; clear f1_ f2_ f3_; subst f4_; subst f5_))
        refine hK.out _ _ ⟨bc BK132 0, bc BK133 0, bc BK133 1, bc BK133 2, bc BK133 3, bc BK138 0, bc BK138 1, bc BK138 2⟩ (fun hHeld => ?_)
        clear hK K
        refine nr ?_
        refine ou 6 none fun K hK => ?_
        have hs274 : w272.cell? ⟨gb140, 0, none⟩ = some (.slice none 0 0) := bc BK140 0
        have hfs274 := bz BK140 0
        have hns274_0 := NB132_140.out
        have hns274_1 := NB133_140.out
        have hns274_2 := NB134_140.out
        have hns274_3 := NB138_140.out
        have hms274_0 := NB140_132.out
        have hms274_1 := NB140_133.out
        have hms274_2 := NB140_134.out
        have hms274_3 := NB140_138.out
        refine sk ?_
        refine hK.out _ _ ⟨((cell_far (p := ⟨gb140, _, none⟩) NB132_140.out _).trans (hHeld.1)), ((cell_far (p := ⟨gb140, _, none⟩) NB133_140.out _).trans (hHeld.2.1)), ((cell_far (p := ⟨gb140, _, none⟩) NB133_140.out _).trans (hHeld.2.2.1)), ((cell_far (p := ⟨gb140, _, none⟩) NB133_140.out _).trans (hHeld.2.2.2.1)), ((cell_far (p := ⟨gb140, _, none⟩) NB133_140.out _).trans (hHeld.2.2.2.2.1)), ((cell_far (p := ⟨gb140, _, none⟩) NB138_140.out _).trans (hHeld.2.2.2.2.2.1)), ((cell_far (p := ⟨gb140, _, none⟩) NB138_140.out _).trans (hHeld.2.2.2.2.2.2.1)), ((cell_far (p := ⟨gb140, _, none⟩) NB138_140.out _).trans (hHeld.2.2.2.2.2.2.2))⟩ (fun hHeld => ?_)
        clear hK K
        refine done_ (by kernel_rfl) ?_
        have hnb275 := NB140_132.out
        have hnc275 := NB132_140.out
        have hnb276 := NB140_134.out
        have hnc276 := NB134_140.out
        have hcz277_0 := bv BK140 0 (.slice none 0 0)
        have hfz277_0 := bz BK140 0
        try go_wp2_with (first | ((with_reducible refine gc 41 rfl ?_); refine gl 125 Try.func41 #[.agg #[.slice Ao273 t153.length co273]] ?_; (with_reducible refine (spec_DiskOk.calls kj188 _ _ t153 false _ ?side1 ?side2 A234.out).mono ?_); (case side1 => refine (Kd.R_reads' (e := 67) (base := w.heap.size) (ok := fun k_ => ((True ∧ some k_ ≠ (.slice Ao271 t150.length co271 : Value).ownBlock) ∧ k_ ≠ gb138)) (n := t153.length) (c := co273) ?_).2.2; exact (by exact (Kd.R_mono (Kd.R_far (p := ⟨gb140, 0, none⟩) (Kd.R_types HO155.out BK140.out (by decide)) (fun _ hk => hk.2) (.slice Ao273 t153.length co273)) (fun _ h_ => h_.1)))); (case side2 => exact (Kd.R_reads' HO155.out).2.1); rintro e w278 ⟨rfl, hb⟩; refine ⟨_, rfl, ?_⟩; have n0_ := AM (Kd.R_below (by exact (Kd.R_mono (Kd.R_far (p := ⟨gb140, 0, none⟩) (Kd.R_types HO152.out BK140.out (by decide)) (fun _ hk => hk.2) (.slice Ao273 t153.length co273)) (fun _ h_ => h_.1))) hb); have n1_ := AM (Kd.R_below (by exact (Kd.R_mono (Kd.R_far (p := ⟨gb140, 0, none⟩) (Kd.R_types HO155.out BK140.out (by decide)) (fun _ hk => hk.2) (.slice Ao273 t153.length co273)) (fun _ h_ => h_.1))) hb); have n2_ := AM (blk_below (g := gb132) (o := .cells #[.slice A0_0 l0_0.length c0_0] 30 (0, 0)) (be) hb); have n3_ := AM (blk_below (g := gb133) (o := .cells #[.int .i64 a1_0, .string a1_1, .string a1_2, .string a1_3] 41 (0, 0)) (be) hb); have n4_ := AM (blk_below (g := gb134) (o := .cells #[.slice none 0 0] 30 (0, 0)) (be) hb); have n5_ := AM (blk_below (g := gb138) (o := .cells #[.string a1_3, .string x139001_59, .int .i64 x139002_59] 67 (0, 0)) (be) hb); have n6_ := AM (blk_below (g := gb140) (o := .cells #[.slice Ao273 t153.length co273] 30 (0, 0)) (bp #[.slice none 0 0] 0) hb); have n7_ := AM (below_step (hS) hb); clear HO152; clear HO155; clear BK132; clear BK133; clear BK134; clear BK138; clear BK140; clear HB; have HO152 := n0_; have HO155 := n1_; have BK132 := n2_; have BK133 := n3_; have BK134 := n4_; have BK138 := n5_; have BK140 := n6_; have HB := n7_; clear n0_ n1_ n2_ n3_ n4_ n5_ n6_ n7_; (try clear hb); (try clear hk); have hnb279 := NB134_132.out; have hnc279 := NB132_134.out; have hcz280_0 := bv BK134 0 (.slice none 0 0); have hfz280_0 := bz BK134 0))
        refine bodyPost_ret (results_ct rfl _ _ gb134 30 #[.slice none 0 0] (0, 0) _ rfl (bp #[.slice none 0 0] 0) Try.underlying30 rfl (by kernel_rfl)) rfl ?_
        exact ⟨_, er, by first | exact Kd.R_nil _ _ _ _ _ | exact Kd.N_nil _ _ _ _ _ | exact Kd.V_nil _ _ _ _ _ | exact Kd.Q_nil _ _ _ _ _ | exact Kd.S_nil _ _ _ _ _, hS⟩
     rw [if_neg c188] at H
     have c188b0 : (a1_0 == 3) = false := beq_eq_false_iff_ne.mpr c188
     have c188b1 : (a1_0 != 3) = true := bne_iff_ne.mpr c188
     by_cases c281 : a1_0 = 4
     ·rw [if_pos c281] at H
      have c281b0 : (a1_0 == 4) = true := beq_iff_eq.mpr c281
      have c281b1 : (a1_0 != 4) = false := bne_eq_false_iff_eq.mpr c281
      clear c281
      replace H := bm H
      obtain ⟨t157, A2820, H⟩ := H
      replace H : ((spec_DiskOk.f kj59 t157).bind fun t160 => (if t160 = true then (some (t157, true)) else (some (([] : List (S67)), false)))) = some (r1, r2) := H
      have A282 := AM A2820
      clear A2820
      replace H := bm H
      obtain ⟨t160, A2830, H⟩ := H
      replace H : (if t160 = true then (some (t157, true)) else (some (([] : List (S67)), false))) = some (r1, r2) := H
      have A283 := AM A2830
      clear A2830
      by_cases c284 : t160 = true
      ·subst c284
       have H1 : (some (t157, true)) = some (r1, r2) := by rw [if_pos rfl] at H; exact H
       clear H
       have H := H1
       clear H1
       simp only [Option.some.injEq, Prod.mk.injEq] at H
       obtain ⟨rfl, rfl⟩ := H
       go_wp2_with (first | ((with_reducible refine gd 8 rfl ?_); refine bx (N := 8) (cs := #[.slice none 0 0]) (t := 30) ?_; intro gb140 hg w285 hbox hb; have BK140 := AM (hbox); have GW140 := AM (bt hg hS); have GE140 := AM (bt hg hS); replace HB := AM (below_step (hS) hb); have NB132_140 := AM (nl hg (bk BK132)); have NB140_132 := AM (ng hg (bk BK132)); replace BK132 := bw BK132 hb; have NB133_140 := AM (nl hg (bk BK133)); have NB140_133 := AM (ng hg (bk BK133)); replace BK133 := bw BK133 hb; have NB134_140 := AM (nl hg (bk BK134)); have NB140_134 := AM (ng hg (bk BK134)); replace BK134 := bw BK134 hb; have NB138_140 := AM (nl hg (bk BK138)); have NB140_138 := AM (ng hg (bk BK138)); replace BK138 := bw BK138 hb; clear hb hbox hg; have hnb286 := NB140_132.out; have hnc286 := NB132_140.out; have hnb287 := NB140_133.out; have hnc287 := NB133_140.out; have hnb288 := NB140_134.out; have hnc288 := NB134_140.out; have hnb289 := NB140_138.out; have hnc289 := NB138_140.out; have hcz290_0 := bv BK140 0 (.slice none 0 0); have hfz290_0 := bz BK140 0; have hnb291 := NB133_132.out; have hnc291 := NB132_133.out; have hnb292 := NB133_134.out; have hnc292 := NB134_133.out; have hnb293 := NB133_138.out; have hnc293 := NB138_133.out; have hcz294_0 := bv BK133 0 (.int .i64 a1_0); have hcz294_1 := bv BK133 1 (.string a1_1); have hcz294_2 := bv BK133 2 (.string a1_2); have hcz294_3 := bv BK133 3 (.string a1_3); have hfz294_0 := bz BK133 0; have hfz294_1 := bz BK133 1; have hfz294_2 := bz BK133 2; have hfz294_3 := bz BK133 3; have hnb295 := NB132_134.out; have hnc295 := NB134_132.out; have hnb296 := NB132_138.out; have hnc296 := NB138_132.out; have hcz297_0 := bv BK132 0 (.slice A0_0 l0_0.length c0_0); have hfz297_0 := bz BK132 0) | ((with_reducible refine gc 47 rfl ?_); refine gl 123 Try.func47 #[.agg #[.slice A0_0 l0_0.length c0_0], .string a1_1] ?_; (with_reducible refine (spec_l03Without.calls kj59 _ _ l0_0 a1_1 t157 _ ?side1 ?side2 A282.out).mono ?_); (case side1 => exact Kd.C_below HR0_0.out (hS)); (case side2 => exact HC0_0.out); rintro e w298 ⟨v158, rfl, ho0, hb⟩; refine ⟨_, rfl, ?_⟩; have n0_ := AM (Kd.R_lower (Kd.R_newB ho0 (g := gb138) (o := .cells #[.string x139000_59, .string x139001_59, .int .i64 x139002_59] 67 (0, 0)) (be)) (below_size (hS))); have n1_ := AM (blk_below (g := gb132) (o := .cells #[.slice A0_0 l0_0.length c0_0] 30 (0, 0)) (be) hb); have n2_ := AM (blk_below (g := gb133) (o := .cells #[.int .i64 a1_0, .string a1_1, .string a1_2, .string a1_3] 41 (0, 0)) (be) hb); have n3_ := AM (blk_below (g := gb134) (o := .cells #[.slice none 0 0] 30 (0, 0)) (be) hb); have n4_ := AM (blk_below (g := gb138) (o := .cells #[.string x139000_59, .string x139001_59, .int .i64 x139002_59] 67 (0, 0)) (be) hb); have n5_ := AM (blk_below (g := gb140) (o := .cells #[.slice none 0 0] 30 (0, 0)) (bp #[.slice none 0 0] 0) hb); have n6_ := AM (below_step (hS) hb); clear BK132; clear BK133; clear BK134; clear BK138; clear BK140; clear HB; have HO159 := n0_; have BK132 := n1_; have BK133 := n2_; have BK134 := n3_; have BK138 := n4_; have BK140 := n5_; have HB := n6_; clear n0_ n1_ n2_ n3_ n4_ n5_ n6_; (try clear hb); (try clear ho0); obtain ⟨Ao299, co299, eo299⟩ := Kd.R_slice HO159.out; subst eo299; have hcz300_0 := bv BK140 0 (.slice none 0 0); have hfz300_0 := bz BK140 0) | ((with_reducible refine gc 41 rfl ?_); refine gl 125 Try.func41 #[.agg #[.slice Ao299 t157.length co299]] ?_; (with_reducible refine (spec_DiskOk.calls kj59 _ _ t157 true _ ?side1 ?side2 A283.out).mono ?_); (case side1 => refine (Kd.R_reads' (e := 67) (base := w.heap.size) (ok := fun k_ => (True ∧ k_ ≠ gb138)) (n := t157.length) (c := co299) ?_).2.2; exact (by exact (Kd.R_mono (Kd.R_far (p := ⟨gb140, 0, none⟩) (Kd.R_types HO159.out BK140.out (by decide)) (fun _ hk => hk.2) (.slice Ao299 t157.length co299)) (fun _ h_ => h_.1)))); (case side2 => exact (Kd.R_reads' HO159.out).2.1); rintro e w301 ⟨rfl, hb⟩; refine ⟨_, rfl, ?_⟩; have n0_ := AM (Kd.R_below (by exact (Kd.R_mono (Kd.R_far (p := ⟨gb140, 0, none⟩) (Kd.R_types HO159.out BK140.out (by decide)) (fun _ hk => hk.2) (.slice Ao299 t157.length co299)) (fun _ h_ => h_.1))) hb); have n1_ := AM (blk_below (g := gb132) (o := .cells #[.slice A0_0 l0_0.length c0_0] 30 (0, 0)) (be) hb); have n2_ := AM (blk_below (g := gb133) (o := .cells #[.int .i64 a1_0, .string a1_1, .string a1_2, .string a1_3] 41 (0, 0)) (be) hb); have n3_ := AM (blk_below (g := gb134) (o := .cells #[.slice none 0 0] 30 (0, 0)) (be) hb); have n4_ := AM (blk_below (g := gb138) (o := .cells #[.string x139000_59, .string x139001_59, .int .i64 x139002_59] 67 (0, 0)) (be) hb); have n5_ := AM (blk_below (g := gb140) (o := .cells #[.slice Ao299 t157.length co299] 30 (0, 0)) (bp #[.slice none 0 0] 0) hb); have n6_ := AM (below_step (hS) hb); clear HO159; clear BK132; clear BK133; clear BK134; clear BK138; clear BK140; clear HB; have HO159 := n0_; have BK132 := n1_; have BK133 := n2_; have BK134 := n3_; have BK138 := n4_; have BK140 := n5_; have HB := n6_; clear n0_ n1_ n2_ n3_ n4_ n5_ n6_; (try clear hb); (try clear hk); have hcz302_0 := bv BK140 0 (.slice Ao299 t157.length co299); have hfz302_0 := bz BK140 0; have hnb303 := NB134_138.out; have hnc303 := NB138_134.out; have hcz304_0 := bv BK134 0 (.slice none 0 0); have hfz304_0 := bz BK134 0))
       refine bodyPost_ret (results_ct rfl _ _ gb134 30 #[.slice Ao299 t157.length co299] (0, 0) _ rfl (bp #[.slice none 0 0] 0) Try.underlying30 rfl (by kernel_rfl)) rfl ?_
       exact ⟨_, er, by exact Kd.R_mono (Kd.R_far (p := ⟨gb134, 0, none⟩) (Kd.R_types HO159.out BK134.out (by decide)) (fun _ hk => hk.2) (.slice Ao299 t157.length co299)) (fun _ hk => trivial), hS⟩
      replace c284 := Bool.eq_false_iff.mpr c284
      subst c284
      have H1 : (some (([] : List (S67)), false)) = some (r1, r2) := by rw [if_neg (show ¬ (false = true) by decide)] at H; exact H
      clear H
      have H := H1
      clear H1
      simp only [Option.some.injEq, Prod.mk.injEq] at H
      obtain ⟨rfl, rfl⟩ := H
      go_wp2_with (first | ((with_reducible refine gd 8 rfl ?_); refine bx (N := 8) (cs := #[.slice none 0 0]) (t := 30) ?_; intro gb140 hg w305 hbox hb; have BK140 := AM (hbox); have GW140 := AM (bt hg hS); have GE140 := AM (bt hg hS); replace HB := AM (below_step (hS) hb); have NB132_140 := AM (nl hg (bk BK132)); have NB140_132 := AM (ng hg (bk BK132)); replace BK132 := bw BK132 hb; have NB133_140 := AM (nl hg (bk BK133)); have NB140_133 := AM (ng hg (bk BK133)); replace BK133 := bw BK133 hb; have NB134_140 := AM (nl hg (bk BK134)); have NB140_134 := AM (ng hg (bk BK134)); replace BK134 := bw BK134 hb; have NB138_140 := AM (nl hg (bk BK138)); have NB140_138 := AM (ng hg (bk BK138)); replace BK138 := bw BK138 hb; clear hb hbox hg; have hnb306 := NB140_132.out; have hnc306 := NB132_140.out; have hnb307 := NB140_133.out; have hnc307 := NB133_140.out; have hnb308 := NB140_134.out; have hnc308 := NB134_140.out; have hnb309 := NB140_138.out; have hnc309 := NB138_140.out; have hcz310_0 := bv BK140 0 (.slice none 0 0); have hfz310_0 := bz BK140 0; have hnb311 := NB133_132.out; have hnc311 := NB132_133.out; have hnb312 := NB133_134.out; have hnc312 := NB134_133.out; have hnb313 := NB133_138.out; have hnc313 := NB138_133.out; have hcz314_0 := bv BK133 0 (.int .i64 a1_0); have hcz314_1 := bv BK133 1 (.string a1_1); have hcz314_2 := bv BK133 2 (.string a1_2); have hcz314_3 := bv BK133 3 (.string a1_3); have hfz314_0 := bz BK133 0; have hfz314_1 := bz BK133 1; have hfz314_2 := bz BK133 2; have hfz314_3 := bz BK133 3; have hnb315 := NB132_134.out; have hnc315 := NB134_132.out; have hnb316 := NB132_138.out; have hnc316 := NB138_132.out; have hcz317_0 := bv BK132 0 (.slice A0_0 l0_0.length c0_0); have hfz317_0 := bz BK132 0) | ((with_reducible refine gc 47 rfl ?_); refine gl 123 Try.func47 #[.agg #[.slice A0_0 l0_0.length c0_0], .string a1_1] ?_; (with_reducible refine (spec_l03Without.calls kj59 _ _ l0_0 a1_1 t157 _ ?side1 ?side2 A282.out).mono ?_); (case side1 => exact Kd.C_below HR0_0.out (hS)); (case side2 => exact HC0_0.out); rintro e w318 ⟨v158, rfl, ho0, hb⟩; refine ⟨_, rfl, ?_⟩; have n0_ := AM (Kd.R_lower (Kd.R_newB ho0 (g := gb138) (o := .cells #[.string x139000_59, .string x139001_59, .int .i64 x139002_59] 67 (0, 0)) (be)) (below_size (hS))); have n1_ := AM (blk_below (g := gb132) (o := .cells #[.slice A0_0 l0_0.length c0_0] 30 (0, 0)) (be) hb); have n2_ := AM (blk_below (g := gb133) (o := .cells #[.int .i64 a1_0, .string a1_1, .string a1_2, .string a1_3] 41 (0, 0)) (be) hb); have n3_ := AM (blk_below (g := gb134) (o := .cells #[.slice none 0 0] 30 (0, 0)) (be) hb); have n4_ := AM (blk_below (g := gb138) (o := .cells #[.string x139000_59, .string x139001_59, .int .i64 x139002_59] 67 (0, 0)) (be) hb); have n5_ := AM (blk_below (g := gb140) (o := .cells #[.slice none 0 0] 30 (0, 0)) (bp #[.slice none 0 0] 0) hb); have n6_ := AM (below_step (hS) hb); clear BK132; clear BK133; clear BK134; clear BK138; clear BK140; clear HB; have HO159 := n0_; have BK132 := n1_; have BK133 := n2_; have BK134 := n3_; have BK138 := n4_; have BK140 := n5_; have HB := n6_; clear n0_ n1_ n2_ n3_ n4_ n5_ n6_; (try clear hb); (try clear ho0); obtain ⟨Ao319, co319, eo319⟩ := Kd.R_slice HO159.out; subst eo319; have hcz320_0 := bv BK140 0 (.slice none 0 0); have hfz320_0 := bz BK140 0) | ((with_reducible refine gc 41 rfl ?_); refine gl 125 Try.func41 #[.agg #[.slice Ao319 t157.length co319]] ?_; (with_reducible refine (spec_DiskOk.calls kj59 _ _ t157 false _ ?side1 ?side2 A283.out).mono ?_); (case side1 => refine (Kd.R_reads' (e := 67) (base := w.heap.size) (ok := fun k_ => (True ∧ k_ ≠ gb138)) (n := t157.length) (c := co319) ?_).2.2; exact (by exact (Kd.R_mono (Kd.R_far (p := ⟨gb140, 0, none⟩) (Kd.R_types HO159.out BK140.out (by decide)) (fun _ hk => hk.2) (.slice Ao319 t157.length co319)) (fun _ h_ => h_.1)))); (case side2 => exact (Kd.R_reads' HO159.out).2.1); rintro e w321 ⟨rfl, hb⟩; refine ⟨_, rfl, ?_⟩; have n0_ := AM (Kd.R_below (by exact (Kd.R_mono (Kd.R_far (p := ⟨gb140, 0, none⟩) (Kd.R_types HO159.out BK140.out (by decide)) (fun _ hk => hk.2) (.slice Ao319 t157.length co319)) (fun _ h_ => h_.1))) hb); have n1_ := AM (blk_below (g := gb132) (o := .cells #[.slice A0_0 l0_0.length c0_0] 30 (0, 0)) (be) hb); have n2_ := AM (blk_below (g := gb133) (o := .cells #[.int .i64 a1_0, .string a1_1, .string a1_2, .string a1_3] 41 (0, 0)) (be) hb); have n3_ := AM (blk_below (g := gb134) (o := .cells #[.slice none 0 0] 30 (0, 0)) (be) hb); have n4_ := AM (blk_below (g := gb138) (o := .cells #[.string x139000_59, .string x139001_59, .int .i64 x139002_59] 67 (0, 0)) (be) hb); have n5_ := AM (blk_below (g := gb140) (o := .cells #[.slice Ao319 t157.length co319] 30 (0, 0)) (bp #[.slice none 0 0] 0) hb); have n6_ := AM (below_step (hS) hb); clear HO159; clear BK132; clear BK133; clear BK134; clear BK138; clear BK140; clear HB; have HO159 := n0_; have BK132 := n1_; have BK133 := n2_; have BK134 := n3_; have BK138 := n4_; have BK140 := n5_; have HB := n6_; clear n0_ n1_ n2_ n3_ n4_ n5_ n6_; (try clear hb); (try clear hk); have hnb322 := NB134_138.out; have hnc322 := NB138_134.out; have hcz323_0 := bv BK134 0 (.slice none 0 0); have hfz323_0 := bz BK134 0))
      refine bodyPost_ret (results_ct rfl _ _ gb134 30 #[.slice none 0 0] (0, 0) _ rfl (bp #[.slice none 0 0] 0) Try.underlying30 rfl (by kernel_rfl)) rfl ?_
      exact ⟨_, er, by first | exact Kd.R_nil _ _ _ _ _ | exact Kd.N_nil _ _ _ _ _ | exact Kd.V_nil _ _ _ _ _ | exact Kd.Q_nil _ _ _ _ _ | exact Kd.S_nil _ _ _ _ _, hS⟩
     rw [if_neg c281] at H
     have c281b0 : (a1_0 == 4) = false := beq_eq_false_iff_ne.mpr c281
     have c281b1 : (a1_0 != 4) = true := bne_iff_ne.mpr c281
     simp only [Option.some.injEq, Prod.mk.injEq] at H
     obtain ⟨rfl, rfl⟩ := H
     go_wp2_with (first | ((with_reducible refine gd 8 rfl ?_); refine bx (N := 8) (cs := #[.slice none 0 0]) (t := 30) ?_; intro gb140 hg w324 hbox hb; have BK140 := AM (hbox); have GW140 := AM (bt hg hS); have GE140 := AM (bt hg hS); replace HB := AM (below_step (hS) hb); have NB132_140 := AM (nl hg (bk BK132)); have NB140_132 := AM (ng hg (bk BK132)); replace BK132 := bw BK132 hb; have NB133_140 := AM (nl hg (bk BK133)); have NB140_133 := AM (ng hg (bk BK133)); replace BK133 := bw BK133 hb; have NB134_140 := AM (nl hg (bk BK134)); have NB140_134 := AM (ng hg (bk BK134)); replace BK134 := bw BK134 hb; have NB138_140 := AM (nl hg (bk BK138)); have NB140_138 := AM (ng hg (bk BK138)); replace BK138 := bw BK138 hb; clear hb hbox hg; have hnb325 := NB140_132.out; have hnc325 := NB132_140.out; have hnb326 := NB140_133.out; have hnc326 := NB133_140.out; have hnb327 := NB140_134.out; have hnc327 := NB134_140.out; have hnb328 := NB140_138.out; have hnc328 := NB138_140.out; have hcz329_0 := bv BK140 0 (.slice none 0 0); have hfz329_0 := bz BK140 0; have hnb330 := NB133_132.out; have hnc330 := NB132_133.out; have hnb331 := NB133_134.out; have hnc331 := NB134_133.out; have hnb332 := NB133_138.out; have hnc332 := NB138_133.out; have hcz333_0 := bv BK133 0 (.int .i64 a1_0); have hcz333_1 := bv BK133 1 (.string a1_1); have hcz333_2 := bv BK133 2 (.string a1_2); have hcz333_3 := bv BK133 3 (.string a1_3); have hfz333_0 := bz BK133 0; have hfz333_1 := bz BK133 1; have hfz333_2 := bz BK133 2; have hfz333_3 := bz BK133 3; have hnb334 := NB134_132.out; have hnc334 := NB132_134.out; have hnb335 := NB134_138.out; have hnc335 := NB138_134.out; have hcz336_0 := bv BK134 0 (.slice none 0 0); have hfz336_0 := bz BK134 0))
     refine bodyPost_ret (results_ct rfl _ _ gb134 30 #[.slice none 0 0] (0, 0) _ rfl (bp #[.slice none 0 0] 0) Try.underlying30 rfl (by kernel_rfl)) rfl ?_
     exact ⟨_, er, by first | exact Kd.R_nil _ _ _ _ _ | exact Kd.N_nil _ _ _ _ _ | exact Kd.V_nil _ _ _ _ _ | exact Kd.Q_nil _ _ _ _ _ | exact Kd.S_nil _ _ _ _ _, hS⟩

end Go.Proofs.Ytnkldnkolcighaa.XFnActs
