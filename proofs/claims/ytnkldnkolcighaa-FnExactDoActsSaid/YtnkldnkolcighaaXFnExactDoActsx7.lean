/- What the functions of a law compute, and that their calls compute it: written by a program of this session (xprint.py), which turns the kit print at a few places. -/
import Derived.Test.YtnkldnkolcighaaXFnExactDoActsx0
import Derived.Test.YtnkldnkolcighaaXFnExactDoActsx4
import Derived.Test.YtnkldnkolcighaaXFnExactDoActsx5
import Derived.Test.YtnkldnkolcighaaXFnExactDoActsx6
namespace Go.Proofs.Ytnkldnkolcighaa.XFnExactDoActs
open Go.RowKit Go.Proofs.YtnkldnkolcighaaU.PrintWords Go.Proofs.YtnkldnkolcighaaU.PrintLast Go.Proofs.YtnkldnkolcighaaU.PrintMore
attribute [local go_sem] max2_int min2_int max_two min_two max_three min_three max_four min_four str_geq str_gtr   -- for this text's walks alone
set_option linter.unusedVariables false
set_option linter.unusedSimpArgs false

/-! ### spec_DoAct: function 17 -/
mutual
def spec_DoAct.j0 : Nat → Bool → List (S67) → Int → ByteArray → ByteArray → ByteArray → Option ((List (S67)) × Bool)
 | 0, _, _, _, _, _, _ => none
 | k + 1, x37, x181000, x182000, x182001, x182002, x182003 => if x37 = true then (some (([] : List (S67)), false)) else ((spec_l03At.f k x181000 x182001).bind fun t185 => (if t185 ≥ 0 then (if 0 ≤ t185 then (if t185 < (x181000.length : Int) then (spec_DoAct.j1 k t185 x181000 x182000 x182001 x182002 x182003 ((rd_T67 x181000 t185).f0) ((rd_T67 x181000 t185).f1) ((rd_T67 x181000 t185).f2)) else (none)) else (none)) else (spec_DoAct.j1 k t185 x181000 x182000 x182001 x182002 x182003 x182001 (⟨#[]⟩ : ByteArray) 0)))
def spec_DoAct.j1 : Nat → Int → List (S67) → Int → ByteArray → ByteArray → ByteArray → ByteArray → ByteArray → Int → Option ((List (S67)) × Bool)
 | 0, _, _, _, _, _, _, _, _, _ => none
 | k + 1, x6, x181000, x182000, x182001, x182002, x182003, x187000, x187001, x187002 => if x182000 = 1 then (if x187001.size + x182002.size ≤ 9223372036854775807 then ((spec_l03Put.f k x181000 x187000 (x187001 ++ x182002) x187002).bind fun t189 => ((spec_DiskOk.f k t189).bind fun t192 => (if t192 = true then (some (t189, true)) else (some (([] : List (S67)), false))))) else (none)) else (if x6 < 0 then (some (([] : List (S67)), false)) else (if x182000 = 2 then ((spec_l03Put.f k x181000 x187000 x187001 (x187001.size : Int)).bind fun t193 => ((spec_DiskOk.f k t193).bind fun t196 => (if t196 = true then (some (t193, true)) else (some (([] : List (S67)), false))))) else (if x182000 = 3 then (if x187002 < (x187001.size : Int) then (spec_DoAct.j2 k true x181000 x182000 x182001 x182002 x182003 x187000 x187001 x187002) else (if x182003.toList = x182001.toList then (spec_DoAct.j2 k true x181000 x182000 x182001 x182002 x182003 x187000 x187001 x187002) else ((spec_l03Name.f x182003).bind fun t197 => (spec_DoAct.j2 k (!t197) x181000 x182000 x182001 x182002 x182003 x187000 x187001 x187002)))) else (if x182000 = 4 then ((spec_l03Without.f k x181000 x182001).bind fun t205 => ((spec_DiskOk.f k t205).bind fun t208 => (if t208 = true then (some (t205, true)) else (some (([] : List (S67)), false))))) else (some (([] : List (S67)), false))))))
def spec_DoAct.j2 : Nat → Bool → List (S67) → Int → ByteArray → ByteArray → ByteArray → ByteArray → ByteArray → Int → Option ((List (S67)) × Bool)
 | 0, _, _, _, _, _, _, _, _, _ => none
 | k + 1, x105, x181000, x182000, x182001, x182002, x182003, x187000, x187001, x187002 => if x105 = true then (some (([] : List (S67)), false)) else ((spec_l03Without.f k x181000 x182001).bind fun t198 => ((spec_l03Put.f k t198 x182003 x187001 x187002).bind fun t201 => ((spec_DiskOk.f k t201).bind fun t204 => (if t204 = true then (some (t201, true)) else (some (([] : List (S67)), false))))))
end
def spec_DoAct.f (k : Nat) (l0_0 : List (S67)) (a1_0 : Int) (a1_1 : ByteArray) (a1_2 : ByteArray) (a1_3 : ByteArray) : Option ((List (S67)) × Bool) := (spec_DiskOk.f k l0_0).bind fun t183 => (if t183 = true then ((spec_l03Name.f a1_1).bind fun t184 => (if t184 = true then (if a1_0 = 3 then (if a1_0 = 1 then (spec_DoAct.j0 k false l0_0 a1_0 a1_1 a1_2 a1_3) else (spec_DoAct.j0 k (a1_2.toList != ([] : List UInt8)) l0_0 a1_0 a1_1 a1_2 a1_3)) else (if a1_3.toList = ([] : List UInt8) then (if a1_0 = 1 then (spec_DoAct.j0 k false l0_0 a1_0 a1_1 a1_2 a1_3) else (spec_DoAct.j0 k (a1_2.toList != ([] : List UInt8)) l0_0 a1_0 a1_1 a1_2 a1_3)) else (spec_DoAct.j0 k true l0_0 a1_0 a1_1 a1_2 a1_3))) else (spec_DoAct.j0 k true l0_0 a1_0 a1_1 a1_2 a1_3))) else (spec_DoAct.j0 k true l0_0 a1_0 a1_1 a1_2 a1_3))
theorem spec_DoAct.mono_l : ∀ k, (∀ y0 y1 y2 y3 y4 y5, LeO (spec_DoAct.j0 k y0 y1 y2 y3 y4 y5) (spec_DoAct.j0 (k + 1) y0 y1 y2 y3 y4 y5)) ∧ (∀ y0 y1 y2 y3 y4 y5 y6 y7 y8, LeO (spec_DoAct.j1 k y0 y1 y2 y3 y4 y5 y6 y7 y8) (spec_DoAct.j1 (k + 1) y0 y1 y2 y3 y4 y5 y6 y7 y8)) ∧ (∀ y0 y1 y2 y3 y4 y5 y6 y7 y8, LeO (spec_DoAct.j2 k y0 y1 y2 y3 y4 y5 y6 y7 y8) (spec_DoAct.j2 (k + 1) y0 y1 y2 y3 y4 y5 y6 y7 y8))
 | 0 => ⟨fun _ _ _ _ _ _ r h => by simp [spec_DoAct.j0] at h, fun _ _ _ _ _ _ _ _ _ r h => by simp [spec_DoAct.j1] at h, fun _ _ _ _ _ _ _ _ _ r h => by simp [spec_DoAct.j2] at h⟩
 | k + 1 => by
  obtain ⟨ih0, ih1, ih2⟩ := spec_DoAct.mono_l k
  refine ⟨?_, ?_, ?_⟩
  ·intro y0 y1 y2 y3 y4 y5
   unfold spec_DoAct.j0
   repeat' first
   | (with_reducible exact LeO.refl _)
   | (with_reducible refine LeO.ite ?_ ?_)
   | (with_reducible refine LeO.bind ?_ (fun _ => ?_))
   | exact ih0 _ _ _ _ _ _
   | exact ih1 _ _ _ _ _ _ _ _ _
   | exact ih2 _ _ _ _ _ _ _ _ _
   | exact spec_DiskOk.mono _ _
   | exact spec_l03At.mono _ _ _
   | exact spec_l03Put.mono _ _ _ _ _
   | exact spec_l03Without.mono _ _ _
   | exact LeO.none _
   | refine LeO.ite ?_ ?_
   | refine LeO.bind ?_ (fun _ => ?_)
  ·intro y0 y1 y2 y3 y4 y5 y6 y7 y8
   unfold spec_DoAct.j1
   repeat' first
   | (with_reducible exact LeO.refl _)
   | (with_reducible refine LeO.ite ?_ ?_)
   | (with_reducible refine LeO.bind ?_ (fun _ => ?_))
   | exact ih0 _ _ _ _ _ _
   | exact ih1 _ _ _ _ _ _ _ _ _
   | exact ih2 _ _ _ _ _ _ _ _ _
   | exact spec_DiskOk.mono _ _
   | exact spec_l03At.mono _ _ _
   | exact spec_l03Put.mono _ _ _ _ _
   | exact spec_l03Without.mono _ _ _
   | exact LeO.none _
   | refine LeO.ite ?_ ?_
   | refine LeO.bind ?_ (fun _ => ?_)
  intro y0 y1 y2 y3 y4 y5 y6 y7 y8
  unfold spec_DoAct.j2
  repeat' first
  | (with_reducible exact LeO.refl _)
  | (with_reducible refine LeO.ite ?_ ?_)
  | (with_reducible refine LeO.bind ?_ (fun _ => ?_))
  | exact ih0 _ _ _ _ _ _
  | exact ih1 _ _ _ _ _ _ _ _ _
  | exact ih2 _ _ _ _ _ _ _ _ _
  | exact spec_DiskOk.mono _ _
  | exact spec_l03At.mono _ _ _
  | exact spec_l03Put.mono _ _ _ _ _
  | exact spec_l03Without.mono _ _ _
  | exact LeO.none _
  | refine LeO.ite ?_ ?_
  | refine LeO.bind ?_ (fun _ => ?_)
theorem spec_DoAct.mono : ∀ a0 a1 a2 a3 a4 k, LeO (spec_DoAct.f k a0 a1 a2 a3 a4) (spec_DoAct.f (k + 1) a0 a1 a2 a3 a4) := by
 intro a0 a1 a2 a3 a4 k
 obtain ⟨ih0, ih1, ih2⟩ := spec_DoAct.mono_l k
 unfold spec_DoAct.f
 repeat' first
   | (with_reducible exact LeO.refl _)
   | (with_reducible refine LeO.ite ?_ ?_)
   | (with_reducible refine LeO.bind ?_ (fun _ => ?_))
   | exact ih0 _ _ _ _ _ _
   | exact ih1 _ _ _ _ _ _ _ _ _
   | exact ih2 _ _ _ _ _ _ _ _ _
   | exact spec_DiskOk.mono _ _
   | exact spec_l03At.mono _ _ _
   | exact spec_l03Put.mono _ _ _ _ _
   | exact spec_l03Without.mono _ _ _
   | exact LeO.none _
   | refine LeO.ite ?_ ?_
   | refine LeO.bind ?_ (fun _ => ?_)
set_option maxHeartbeats 8000000 in
set_option maxRecDepth 100000 in
theorem spec_DoAct.calls (k : Nat) (A0_0 : Option Addr) (c0_0 : Nat) (l0_0 : List (S67)) (a1_0 : Int) (a1_1 : ByteArray) (a1_2 : ByteArray) (a1_3 : ByteArray) (r1 : List (S67)) (r2 : Bool) (w : World) (hr0_0 : Kd.C k67 w A0_0 l0_0.length l0_0) (hc0_0 : l0_0.length ≤ c0_0) (h : spec_DoAct.f k l0_0 a1_0 a1_1 a1_2 a1_3 = some (r1, r2)) :
  Calls Try.prog 17 #[.agg #[.slice A0_0 l0_0.length c0_0], .agg #[.int .i64 a1_0, .string a1_1, .string a1_2, .string a1_3]] w fun e w' => ∃ v0_ : Value, e = .returned (.tuple #[.agg #[v0_], .bool r2]) ∧ Kd.R k67 67 w' w.heap.size (fun _ => True) v0_ r1 ∧ Below w.heap.size w w' := by
 have hu30 := Try.underlying30
 have hu41 := Try.underlying41
 have hu67 := Try.underlying67
 have HR0_0 := AM hr0_0
 have HC0_0 := AM hc0_0
 clear hr0_0 hc0_0
 have HB := AM (Below.refl w.heap.size w)
 have H : ((spec_DiskOk.f k l0_0).bind fun t183 => (if t183 = true then ((spec_l03Name.f a1_1).bind fun t184 => (if t184 = true then (if a1_0 = 3 then (if a1_0 = 1 then (spec_DoAct.j0 k false l0_0 a1_0 a1_1 a1_2 a1_3) else (spec_DoAct.j0 k (a1_2.toList != ([] : List UInt8)) l0_0 a1_0 a1_1 a1_2 a1_3)) else (if a1_3.toList = ([] : List UInt8) then (if a1_0 = 1 then (spec_DoAct.j0 k false l0_0 a1_0 a1_1 a1_2 a1_3) else (spec_DoAct.j0 k (a1_2.toList != ([] : List UInt8)) l0_0 a1_0 a1_1 a1_2 a1_3)) else (spec_DoAct.j0 k true l0_0 a1_0 a1_1 a1_2 a1_3))) else (spec_DoAct.j0 k true l0_0 a1_0 a1_1 a1_2 a1_3))) else (spec_DoAct.j0 k true l0_0 a1_0 a1_1 a1_2 a1_3))) = some (r1, r2) := h
 clear h
 have HC3 := AM H
 clear H
 go_enter Try.func17, Try.ntmps17
 go_upto_region 1 with (first | ((with_reducible refine gate_dst (N := 2) rfl ?_); refine bx (N := 2) (cs := #[.slice A0_0 l0_0.length c0_0]) (t := 30) ?_; intro gb180 hg w4 hbox hb; have n0_ := AM (below_step (hB HB) hb); have n1_ := AM (hbox); have n2_ := AM (bs hg HB); have n3_ := AM (bs hg HB); clear HB; have HB := n0_; have BK180 := n1_; have GW180 := n2_; have GE180 := n3_; clear n0_ n1_ n2_ n3_; clear hb hbox hg) | ((with_reducible refine gate_dst (N := 3) rfl ?_); refine bx (N := 3) (cs := #[.int .i64 a1_0, .string a1_1, .string a1_2, .string a1_3]) (t := 41) ?_; intro gb181 hg w5 hbox hb; have n0_ := AM (blk_below (bk BK180) hb); have n1_ := AM (below_step (hS) hb); have n2_ := AM (hbox); have n3_ := AM (bt hg hS); have n4_ := AM (bt hg hS); have n5_ := AM (nl hg (bk BK180)); have n6_ := AM (ng hg (bk BK180)); clear BK180; clear HB; have BK180 := n0_; have HB := n1_; have BK181 := n2_; have GW181 := n3_; have GE181 := n4_; have NB180_181 := n5_; have NB181_180 := n6_; clear n0_ n1_ n2_ n3_ n4_ n5_ n6_; clear hb hbox hg) | ((with_reducible refine gate_dst (N := 4) rfl ?_); refine bx (N := 4) (cs := #[.slice none 0 0]) (t := 30) ?_; intro gb182 hg w6 hbox hb; have n0_ := AM (blk_below (bk BK180) hb); have n1_ := AM (blk_below (bk BK181) hb); have n2_ := AM (below_step (hS) hb); have n3_ := AM (hbox); have n4_ := AM (bt hg hS); have n5_ := AM (bt hg hS); have n6_ := AM (nl hg (bk BK180)); have n7_ := AM (ng hg (bk BK180)); have n8_ := AM (nl hg (bk BK181)); have n9_ := AM (ng hg (bk BK181)); clear BK180; clear BK181; clear HB; have BK180 := n0_; have BK181 := n1_; have HB := n2_; have BK182 := n3_; have GW182 := n4_; have GE182 := n5_; have NB180_182 := n6_; have NB182_180 := n7_; have NB181_182 := n8_; have NB182_181 := n9_; clear n0_ n1_ n2_ n3_ n4_ n5_ n6_ n7_ n8_ n9_; clear hb hbox hg))
 (try simp only [Act.put, qT, q0, qS])
 go_cut [37] (fun v37 wc => ∃ (kq : Nat) (x37_2 : Bool), v37 = .bool x37_2 ∧ Aside0 (spec_DoAct.j0 kq x37_2 l0_0 a1_0 a1_1 a1_2 a1_3 = some (r1, r2)) ∧ Aside0 (kq ≤ k) ∧ Aside0 (wc.heap[gb180]? = some (.cells #[(.slice A0_0 l0_0.length c0_0)] 30 (0, 0))) ∧ Aside0 (wc.heap[gb181]? = some (.cells #[.int .i64 a1_0, .string a1_1, .string a1_2, .string a1_3] 41 (0, 0))) ∧ Aside0 (wc.heap[gb182]? = some (.cells #[(.slice none 0 0)] 30 (0, 0))) ∧ Aside0 (Below w.heap.size w wc))
 case first =>
  have H := HC3.out
  clear HC3
  replace H := bm H
  obtain ⟨t183, A70, H⟩ := H
  replace H : (if t183 = true then ((spec_l03Name.f a1_1).bind fun t184 => (if t184 = true then (if a1_0 = 3 then (if a1_0 = 1 then (spec_DoAct.j0 k false l0_0 a1_0 a1_1 a1_2 a1_3) else (spec_DoAct.j0 k (a1_2.toList != ([] : List UInt8)) l0_0 a1_0 a1_1 a1_2 a1_3)) else (if a1_3.toList = ([] : List UInt8) then (if a1_0 = 1 then (spec_DoAct.j0 k false l0_0 a1_0 a1_1 a1_2 a1_3) else (spec_DoAct.j0 k (a1_2.toList != ([] : List UInt8)) l0_0 a1_0 a1_1 a1_2 a1_3)) else (spec_DoAct.j0 k true l0_0 a1_0 a1_1 a1_2 a1_3))) else (spec_DoAct.j0 k true l0_0 a1_0 a1_1 a1_2 a1_3))) else (spec_DoAct.j0 k true l0_0 a1_0 a1_1 a1_2 a1_3)) = some (r1, r2) := H
  have A7 := AM A70
  clear A70
  by_cases c8 : t183 = true
  ·subst c8
   have H1 : ((spec_l03Name.f a1_1).bind fun t184 => (if t184 = true then (if a1_0 = 3 then (if a1_0 = 1 then (spec_DoAct.j0 k false l0_0 a1_0 a1_1 a1_2 a1_3) else (spec_DoAct.j0 k (a1_2.toList != ([] : List UInt8)) l0_0 a1_0 a1_1 a1_2 a1_3)) else (if a1_3.toList = ([] : List UInt8) then (if a1_0 = 1 then (spec_DoAct.j0 k false l0_0 a1_0 a1_1 a1_2 a1_3) else (spec_DoAct.j0 k (a1_2.toList != ([] : List UInt8)) l0_0 a1_0 a1_1 a1_2 a1_3)) else (spec_DoAct.j0 k true l0_0 a1_0 a1_1 a1_2 a1_3))) else (spec_DoAct.j0 k true l0_0 a1_0 a1_1 a1_2 a1_3))) = some (r1, r2) := by rw [if_pos rfl] at H; exact H
   clear H
   have H := H1
   clear H1
   replace H := bm H
   obtain ⟨t184, A90, H⟩ := H
   replace H : (if t184 = true then (if a1_0 = 3 then (if a1_0 = 1 then (spec_DoAct.j0 k false l0_0 a1_0 a1_1 a1_2 a1_3) else (spec_DoAct.j0 k (a1_2.toList != ([] : List UInt8)) l0_0 a1_0 a1_1 a1_2 a1_3)) else (if a1_3.toList = ([] : List UInt8) then (if a1_0 = 1 then (spec_DoAct.j0 k false l0_0 a1_0 a1_1 a1_2 a1_3) else (spec_DoAct.j0 k (a1_2.toList != ([] : List UInt8)) l0_0 a1_0 a1_1 a1_2 a1_3)) else (spec_DoAct.j0 k true l0_0 a1_0 a1_1 a1_2 a1_3))) else (spec_DoAct.j0 k true l0_0 a1_0 a1_1 a1_2 a1_3)) = some (r1, r2) := H
   have A9 := AM A90
   clear A90
   by_cases c10 : t184 = true
   ·subst c10
    have H1 : (if a1_0 = 3 then (if a1_0 = 1 then (spec_DoAct.j0 k false l0_0 a1_0 a1_1 a1_2 a1_3) else (spec_DoAct.j0 k (a1_2.toList != ([] : List UInt8)) l0_0 a1_0 a1_1 a1_2 a1_3)) else (if a1_3.toList = ([] : List UInt8) then (if a1_0 = 1 then (spec_DoAct.j0 k false l0_0 a1_0 a1_1 a1_2 a1_3) else (spec_DoAct.j0 k (a1_2.toList != ([] : List UInt8)) l0_0 a1_0 a1_1 a1_2 a1_3)) else (spec_DoAct.j0 k true l0_0 a1_0 a1_1 a1_2 a1_3))) = some (r1, r2) := by rw [if_pos rfl] at H; exact H
    clear H
    have H := H1
    clear H1
    by_cases c11 : a1_0 = 3
    ·rw [if_pos c11] at H
     have c11b0 : (a1_0 == 3) = true := beq_iff_eq.mpr c11
     have c11b1 : (a1_0 != 3) = false := bne_eq_false_iff_eq.mpr c11
     clear c11
     (first | rw [c11b0] | (simp only [i64_w, i32_w]; rw [c11b0]) | rw [c11b1] | skip)
     by_cases c12 : a1_0 = 1
     ·rw [if_pos c12] at H
      have c12b0 : (a1_0 == 1) = true := beq_iff_eq.mpr c12
      have c12b1 : (a1_0 != 1) = false := bne_eq_false_iff_eq.mpr c12
      clear c12
      have H' := AM H
      clear H
      have hnb13 := NB180_181.out
      have hnc13 := NB181_180.out
      have hnb14 := NB180_182.out
      have hnc14 := NB182_180.out
      have hcz15_0 : w6.cell? ⟨gb180, 0, none⟩ = some (.slice A0_0 l0_0.length c0_0) := bc BK180 0
      have hfz15_0 := blk_frozen BK180.out 0
      go_wp2_with (first | ((with_reducible refine gate_callee (f := 41) rfl ?_); refine goesL_ (some 10) rfl rfl Try.func41 (by kernel_rfl) rfl #[.agg #[.slice A0_0 l0_0.length c0_0]] rfl am ?_; (with_reducible refine (spec_DiskOk.calls k _ _ l0_0 true _ ?side1 ?side2 A7.out).mono ?_); (case side1 => repeat (first | exact (Kd.C_below HR0_0.out HB.out) | (with_reducible refine Kd.C_alloc ?_ _) | (with_reducible refine Kd.C_drewN ?_ _) | (with_reducible refine Kd.C_drew ?_))); (case side2 => exact HC0_0.out); rintro e w16 ⟨rfl, hb⟩; refine ⟨_, rfl, ?_⟩; have n0_ := AM (blk_below (bk BK180) hb); have n1_ := AM (blk_below (bk BK181) hb); have n2_ := AM (blk_below (bk BK182) hb); have n3_ := AM (below_step (hS) hb); clear BK180; clear BK181; clear BK182; clear HB; have BK180 := n0_; have BK181 := n1_; have BK182 := n2_; have HB := n3_; clear n0_ n1_ n2_ n3_; (try clear hb); have hnb17 := NB181_182.out; have hnc17 := NB182_181.out; have hcz18_0 : w16.cell? ⟨gb181, 0, none⟩ = some (.int .i64 a1_0) := bc BK181 0; have hcz18_1 : w16.cell? ⟨gb181, 1, none⟩ = some (.string a1_1) := bc BK181 1; have hcz18_2 : w16.cell? ⟨gb181, 2, none⟩ = some (.string a1_2) := bc BK181 2; have hcz18_3 : w16.cell? ⟨gb181, 3, none⟩ = some (.string a1_3) := bc BK181 3; have hfz18_0 := blk_frozen BK181.out 0; have hfz18_1 := blk_frozen BK181.out 1; have hfz18_2 := blk_frozen BK181.out 2; have hfz18_3 := blk_frozen BK181.out 3) | (go_at_call 45; (with_reducible refine (spec_l03Name.calls a1_1 true _ A9.out).mono ?_); rintro e w' ⟨rfl, ⟨nd, rfl⟩⟩))
      go_meet
      case rel => exact ⟨_, (false), (by first | rfl | (simp; done) | (simp [*]; done) | (generalize ByteArray.toList a1_2 = q_; cases q_ <;> first | rfl | (simp; done))), H', ⟨by first | omega | exact Nat.le_refl _⟩, ⟨bk BK180⟩, ⟨bk BK181⟩, ⟨bk BK182⟩, ⟨hS⟩⟩
     rw [if_neg c12] at H
     have c12b0 : (a1_0 == 1) = false := beq_eq_false_iff_ne.mpr c12
     have c12b1 : (a1_0 != 1) = true := bne_iff_ne.mpr c12
     have H' := AM H
     clear H
     have hnb19 := NB180_181.out
     have hnc19 := NB181_180.out
     have hnb20 := NB180_182.out
     have hnc20 := NB182_180.out
     have hcz21_0 : w6.cell? ⟨gb180, 0, none⟩ = some (.slice A0_0 l0_0.length c0_0) := bc BK180 0
     have hfz21_0 := blk_frozen BK180.out 0
     go_wp2_with (first | ((with_reducible refine gate_callee (f := 41) rfl ?_); refine goesL_ (some 10) rfl rfl Try.func41 (by kernel_rfl) rfl #[.agg #[.slice A0_0 l0_0.length c0_0]] rfl am ?_; (with_reducible refine (spec_DiskOk.calls k _ _ l0_0 true _ ?side1 ?side2 A7.out).mono ?_); (case side1 => repeat (first | exact (Kd.C_below HR0_0.out HB.out) | (with_reducible refine Kd.C_alloc ?_ _) | (with_reducible refine Kd.C_drewN ?_ _) | (with_reducible refine Kd.C_drew ?_))); (case side2 => exact HC0_0.out); rintro e w22 ⟨rfl, hb⟩; refine ⟨_, rfl, ?_⟩; have n0_ := AM (blk_below (bk BK180) hb); have n1_ := AM (blk_below (bk BK181) hb); have n2_ := AM (blk_below (bk BK182) hb); have n3_ := AM (below_step (hS) hb); clear BK180; clear BK181; clear BK182; clear HB; have BK180 := n0_; have BK181 := n1_; have BK182 := n2_; have HB := n3_; clear n0_ n1_ n2_ n3_; (try clear hb); have hnb23 := NB181_182.out; have hnc23 := NB182_181.out; have hcz24_0 : w22.cell? ⟨gb181, 0, none⟩ = some (.int .i64 a1_0) := bc BK181 0; have hcz24_1 : w22.cell? ⟨gb181, 1, none⟩ = some (.string a1_1) := bc BK181 1; have hcz24_2 : w22.cell? ⟨gb181, 2, none⟩ = some (.string a1_2) := bc BK181 2; have hcz24_3 : w22.cell? ⟨gb181, 3, none⟩ = some (.string a1_3) := bc BK181 3; have hfz24_0 := blk_frozen BK181.out 0; have hfz24_1 := blk_frozen BK181.out 1; have hfz24_2 := blk_frozen BK181.out 2; have hfz24_3 := blk_frozen BK181.out 3) | (go_at_call 45; (with_reducible refine (spec_l03Name.calls a1_1 true _ A9.out).mono ?_); rintro e w' ⟨rfl, ⟨nd, rfl⟩⟩))
     go_meet
     case rel => exact ⟨_, ((a1_2.toList != ([] : List UInt8))), (by first | rfl | (simp; done) | (simp [*]; done) | (generalize ByteArray.toList a1_2 = q_; cases q_ <;> first | rfl | (simp; done))), H', ⟨by first | omega | exact Nat.le_refl _⟩, ⟨bk BK180⟩, ⟨bk BK181⟩, ⟨bk BK182⟩, ⟨hS⟩⟩
    rw [if_neg c11] at H
    have c11b0 : (a1_0 == 3) = false := beq_eq_false_iff_ne.mpr c11
    have c11b1 : (a1_0 != 3) = true := bne_iff_ne.mpr c11
    (first | rw [c11b0] | (simp only [i64_w, i32_w]; rw [c11b0]) | rw [c11b1] | skip)
    by_cases c25 : a1_3.toList = ([] : List UInt8)
    ·rw [if_pos c25] at H
     have c25b0 : (a1_3.toList == ([] : List UInt8)) = true := beq_iff_eq.mpr c25
     have c25b1 : (a1_3.toList != ([] : List UInt8)) = false := bne_eq_false_iff_eq.mpr c25
     clear c25
     by_cases c26 : a1_0 = 1
     ·rw [if_pos c26] at H
      have c26b0 : (a1_0 == 1) = true := beq_iff_eq.mpr c26
      have c26b1 : (a1_0 != 1) = false := bne_eq_false_iff_eq.mpr c26
      clear c26
      have H' := AM H
      clear H
      have hnb27 := NB180_181.out
      have hnc27 := NB181_180.out
      have hnb28 := NB180_182.out
      have hnc28 := NB182_180.out
      have hcz29_0 : w6.cell? ⟨gb180, 0, none⟩ = some (.slice A0_0 l0_0.length c0_0) := bc BK180 0
      have hfz29_0 := blk_frozen BK180.out 0
      go_wp2_with (first | ((with_reducible refine gate_callee (f := 41) rfl ?_); refine goesL_ (some 10) rfl rfl Try.func41 (by kernel_rfl) rfl #[.agg #[.slice A0_0 l0_0.length c0_0]] rfl am ?_; (with_reducible refine (spec_DiskOk.calls k _ _ l0_0 true _ ?side1 ?side2 A7.out).mono ?_); (case side1 => repeat (first | exact (Kd.C_below HR0_0.out HB.out) | (with_reducible refine Kd.C_alloc ?_ _) | (with_reducible refine Kd.C_drewN ?_ _) | (with_reducible refine Kd.C_drew ?_))); (case side2 => exact HC0_0.out); rintro e w30 ⟨rfl, hb⟩; refine ⟨_, rfl, ?_⟩; have n0_ := AM (blk_below (bk BK180) hb); have n1_ := AM (blk_below (bk BK181) hb); have n2_ := AM (blk_below (bk BK182) hb); have n3_ := AM (below_step (hS) hb); clear BK180; clear BK181; clear BK182; clear HB; have BK180 := n0_; have BK181 := n1_; have BK182 := n2_; have HB := n3_; clear n0_ n1_ n2_ n3_; (try clear hb); have hnb31 := NB181_182.out; have hnc31 := NB182_181.out; have hcz32_0 : w30.cell? ⟨gb181, 0, none⟩ = some (.int .i64 a1_0) := bc BK181 0; have hcz32_1 : w30.cell? ⟨gb181, 1, none⟩ = some (.string a1_1) := bc BK181 1; have hcz32_2 : w30.cell? ⟨gb181, 2, none⟩ = some (.string a1_2) := bc BK181 2; have hcz32_3 : w30.cell? ⟨gb181, 3, none⟩ = some (.string a1_3) := bc BK181 3; have hfz32_0 := blk_frozen BK181.out 0; have hfz32_1 := blk_frozen BK181.out 1; have hfz32_2 := blk_frozen BK181.out 2; have hfz32_3 := blk_frozen BK181.out 3) | (go_at_call 45; (with_reducible refine (spec_l03Name.calls a1_1 true _ A9.out).mono ?_); rintro e w' ⟨rfl, ⟨nd, rfl⟩⟩))
      go_meet
      case rel => exact ⟨_, (false), (by first | rfl | (simp; done) | (simp [*]; done) | (generalize ByteArray.toList a1_2 = q_; cases q_ <;> first | rfl | (simp; done))), H', ⟨by first | omega | exact Nat.le_refl _⟩, ⟨bk BK180⟩, ⟨bk BK181⟩, ⟨bk BK182⟩, ⟨hS⟩⟩
     rw [if_neg c26] at H
     have c26b0 : (a1_0 == 1) = false := beq_eq_false_iff_ne.mpr c26
     have c26b1 : (a1_0 != 1) = true := bne_iff_ne.mpr c26
     have H' := AM H
     clear H
     have hnb33 := NB180_181.out
     have hnc33 := NB181_180.out
     have hnb34 := NB180_182.out
     have hnc34 := NB182_180.out
     have hcz35_0 : w6.cell? ⟨gb180, 0, none⟩ = some (.slice A0_0 l0_0.length c0_0) := bc BK180 0
     have hfz35_0 := blk_frozen BK180.out 0
     go_wp2_with (first | ((with_reducible refine gate_callee (f := 41) rfl ?_); refine goesL_ (some 10) rfl rfl Try.func41 (by kernel_rfl) rfl #[.agg #[.slice A0_0 l0_0.length c0_0]] rfl am ?_; (with_reducible refine (spec_DiskOk.calls k _ _ l0_0 true _ ?side1 ?side2 A7.out).mono ?_); (case side1 => repeat (first | exact (Kd.C_below HR0_0.out HB.out) | (with_reducible refine Kd.C_alloc ?_ _) | (with_reducible refine Kd.C_drewN ?_ _) | (with_reducible refine Kd.C_drew ?_))); (case side2 => exact HC0_0.out); rintro e w36 ⟨rfl, hb⟩; refine ⟨_, rfl, ?_⟩; have n0_ := AM (blk_below (bk BK180) hb); have n1_ := AM (blk_below (bk BK181) hb); have n2_ := AM (blk_below (bk BK182) hb); have n3_ := AM (below_step (hS) hb); clear BK180; clear BK181; clear BK182; clear HB; have BK180 := n0_; have BK181 := n1_; have BK182 := n2_; have HB := n3_; clear n0_ n1_ n2_ n3_; (try clear hb); have hnb37 := NB181_182.out; have hnc37 := NB182_181.out; have hcz38_0 : w36.cell? ⟨gb181, 0, none⟩ = some (.int .i64 a1_0) := bc BK181 0; have hcz38_1 : w36.cell? ⟨gb181, 1, none⟩ = some (.string a1_1) := bc BK181 1; have hcz38_2 : w36.cell? ⟨gb181, 2, none⟩ = some (.string a1_2) := bc BK181 2; have hcz38_3 : w36.cell? ⟨gb181, 3, none⟩ = some (.string a1_3) := bc BK181 3; have hfz38_0 := blk_frozen BK181.out 0; have hfz38_1 := blk_frozen BK181.out 1; have hfz38_2 := blk_frozen BK181.out 2; have hfz38_3 := blk_frozen BK181.out 3) | (go_at_call 45; (with_reducible refine (spec_l03Name.calls a1_1 true _ A9.out).mono ?_); rintro e w' ⟨rfl, ⟨nd, rfl⟩⟩))
     go_meet
     case rel => exact ⟨_, ((a1_2.toList != ([] : List UInt8))), (by first | rfl | (simp; done) | (simp [*]; done) | (generalize ByteArray.toList a1_2 = q_; cases q_ <;> first | rfl | (simp; done))), H', ⟨by first | omega | exact Nat.le_refl _⟩, ⟨bk BK180⟩, ⟨bk BK181⟩, ⟨bk BK182⟩, ⟨hS⟩⟩
    rw [if_neg c25] at H
    have c25b0 : (a1_3.toList == ([] : List UInt8)) = false := beq_eq_false_iff_ne.mpr c25
    have c25b1 : (a1_3.toList != ([] : List UInt8)) = true := bne_iff_ne.mpr c25
    have H' := AM H
    clear H
    have hnb39 := NB180_181.out
    have hnc39 := NB181_180.out
    have hnb40 := NB180_182.out
    have hnc40 := NB182_180.out
    have hcz41_0 : w6.cell? ⟨gb180, 0, none⟩ = some (.slice A0_0 l0_0.length c0_0) := bc BK180 0
    have hfz41_0 := blk_frozen BK180.out 0
    go_wp2_with (first | ((with_reducible refine gate_callee (f := 41) rfl ?_); refine goesL_ (some 10) rfl rfl Try.func41 (by kernel_rfl) rfl #[.agg #[.slice A0_0 l0_0.length c0_0]] rfl am ?_; (with_reducible refine (spec_DiskOk.calls k _ _ l0_0 true _ ?side1 ?side2 A7.out).mono ?_); (case side1 => repeat (first | exact (Kd.C_below HR0_0.out HB.out) | (with_reducible refine Kd.C_alloc ?_ _) | (with_reducible refine Kd.C_drewN ?_ _) | (with_reducible refine Kd.C_drew ?_))); (case side2 => exact HC0_0.out); rintro e w42 ⟨rfl, hb⟩; refine ⟨_, rfl, ?_⟩; have n0_ := AM (blk_below (bk BK180) hb); have n1_ := AM (blk_below (bk BK181) hb); have n2_ := AM (blk_below (bk BK182) hb); have n3_ := AM (below_step (hS) hb); clear BK180; clear BK181; clear BK182; clear HB; have BK180 := n0_; have BK181 := n1_; have BK182 := n2_; have HB := n3_; clear n0_ n1_ n2_ n3_; (try clear hb); have hnb43 := NB181_182.out; have hnc43 := NB182_181.out; have hcz44_0 : w42.cell? ⟨gb181, 0, none⟩ = some (.int .i64 a1_0) := bc BK181 0; have hcz44_1 : w42.cell? ⟨gb181, 1, none⟩ = some (.string a1_1) := bc BK181 1; have hcz44_2 : w42.cell? ⟨gb181, 2, none⟩ = some (.string a1_2) := bc BK181 2; have hcz44_3 : w42.cell? ⟨gb181, 3, none⟩ = some (.string a1_3) := bc BK181 3; have hfz44_0 := blk_frozen BK181.out 0; have hfz44_1 := blk_frozen BK181.out 1; have hfz44_2 := blk_frozen BK181.out 2; have hfz44_3 := blk_frozen BK181.out 3) | (go_at_call 45; (with_reducible refine (spec_l03Name.calls a1_1 true _ A9.out).mono ?_); rintro e w' ⟨rfl, ⟨nd, rfl⟩⟩))
    go_meet
    case rel => exact ⟨_, (true), (by first | rfl | (simp; done) | (simp [*]; done) | (generalize ByteArray.toList a1_2 = q_; cases q_ <;> first | rfl | (simp; done))), H', ⟨by first | omega | exact Nat.le_refl _⟩, ⟨bk BK180⟩, ⟨bk BK181⟩, ⟨bk BK182⟩, ⟨hS⟩⟩
   replace c10 := Bool.eq_false_iff.mpr c10
   subst c10
   have H1 : (spec_DoAct.j0 k true l0_0 a1_0 a1_1 a1_2 a1_3) = some (r1, r2) := by rw [if_neg (show ¬ (false = true) by decide)] at H; exact H
   clear H
   have H := H1
   clear H1
   have H' := AM H
   clear H
   have hnb45 := NB180_181.out
   have hnc45 := NB181_180.out
   have hnb46 := NB180_182.out
   have hnc46 := NB182_180.out
   have hcz47_0 : w6.cell? ⟨gb180, 0, none⟩ = some (.slice A0_0 l0_0.length c0_0) := bc BK180 0
   have hfz47_0 := blk_frozen BK180.out 0
   go_wp2_with (first | ((with_reducible refine gate_callee (f := 41) rfl ?_); refine goesL_ (some 10) rfl rfl Try.func41 (by kernel_rfl) rfl #[.agg #[.slice A0_0 l0_0.length c0_0]] rfl am ?_; (with_reducible refine (spec_DiskOk.calls k _ _ l0_0 true _ ?side1 ?side2 A7.out).mono ?_); (case side1 => repeat (first | exact (Kd.C_below HR0_0.out HB.out) | (with_reducible refine Kd.C_alloc ?_ _) | (with_reducible refine Kd.C_drewN ?_ _) | (with_reducible refine Kd.C_drew ?_))); (case side2 => exact HC0_0.out); rintro e w48 ⟨rfl, hb⟩; refine ⟨_, rfl, ?_⟩; have n0_ := AM (blk_below (bk BK180) hb); have n1_ := AM (blk_below (bk BK181) hb); have n2_ := AM (blk_below (bk BK182) hb); have n3_ := AM (below_step (hS) hb); clear BK180; clear BK181; clear BK182; clear HB; have BK180 := n0_; have BK181 := n1_; have BK182 := n2_; have HB := n3_; clear n0_ n1_ n2_ n3_; (try clear hb); have hnb49 := NB181_182.out; have hnc49 := NB182_181.out; have hcz50_0 : w48.cell? ⟨gb181, 0, none⟩ = some (.int .i64 a1_0) := bc BK181 0; have hcz50_1 : w48.cell? ⟨gb181, 1, none⟩ = some (.string a1_1) := bc BK181 1; have hcz50_2 : w48.cell? ⟨gb181, 2, none⟩ = some (.string a1_2) := bc BK181 2; have hcz50_3 : w48.cell? ⟨gb181, 3, none⟩ = some (.string a1_3) := bc BK181 3; have hfz50_0 := blk_frozen BK181.out 0; have hfz50_1 := blk_frozen BK181.out 1; have hfz50_2 := blk_frozen BK181.out 2; have hfz50_3 := blk_frozen BK181.out 3) | (go_at_call 45; (with_reducible refine (spec_l03Name.calls a1_1 false _ A9.out).mono ?_); rintro e w' ⟨rfl, ⟨nd, rfl⟩⟩))
   go_meet
   case rel => exact ⟨_, (true), (by first | rfl | (simp; done) | (simp [*]; done) | (generalize ByteArray.toList a1_2 = q_; cases q_ <;> first | rfl | (simp; done))), H', ⟨by first | omega | exact Nat.le_refl _⟩, ⟨bk BK180⟩, ⟨bk BK181⟩, ⟨bk BK182⟩, ⟨hS⟩⟩
  replace c8 := Bool.eq_false_iff.mpr c8
  subst c8
  have H1 : (spec_DoAct.j0 k true l0_0 a1_0 a1_1 a1_2 a1_3) = some (r1, r2) := by rw [if_neg (show ¬ (false = true) by decide)] at H; exact H
  clear H
  have H := H1
  clear H1
  have H' := AM H
  clear H
  have hnb51 := NB180_181.out
  have hnc51 := NB181_180.out
  have hnb52 := NB180_182.out
  have hnc52 := NB182_180.out
  have hcz53_0 : w6.cell? ⟨gb180, 0, none⟩ = some (.slice A0_0 l0_0.length c0_0) := bc BK180 0
  have hfz53_0 := blk_frozen BK180.out 0
  go_wp2_with (first | ((with_reducible refine gate_callee (f := 41) rfl ?_); refine goesL_ (some 10) rfl rfl Try.func41 (by kernel_rfl) rfl #[.agg #[.slice A0_0 l0_0.length c0_0]] rfl am ?_; (with_reducible refine (spec_DiskOk.calls k _ _ l0_0 false _ ?side1 ?side2 A7.out).mono ?_); (case side1 => repeat (first | exact (Kd.C_below HR0_0.out HB.out) | (with_reducible refine Kd.C_alloc ?_ _) | (with_reducible refine Kd.C_drewN ?_ _) | (with_reducible refine Kd.C_drew ?_))); (case side2 => exact HC0_0.out); rintro e w54 ⟨rfl, hb⟩; refine ⟨_, rfl, ?_⟩; have n0_ := AM (blk_below (bk BK180) hb); have n1_ := AM (blk_below (bk BK181) hb); have n2_ := AM (blk_below (bk BK182) hb); have n3_ := AM (below_step (hS) hb); clear BK180; clear BK181; clear BK182; clear HB; have BK180 := n0_; have BK181 := n1_; have BK182 := n2_; have HB := n3_; clear n0_ n1_ n2_ n3_; (try clear hb)))
  go_meet
  case rel => exact ⟨_, (true), (by first | rfl | (simp; done) | (simp [*]; done) | (generalize ByteArray.toList a1_2 = q_; cases q_ <;> first | rfl | (simp; done))), H', ⟨by first | omega | exact Nat.le_refl _⟩, ⟨bk BK180⟩, ⟨bk BK181⟩, ⟨bk BK182⟩, ⟨hS⟩⟩
 case rest =>
  clear HC3
  obtain ⟨kq, x37_2, rfl, HA, HJ2, BK180, BK181, BK182, HB⟩ := hcut
  cases kq with
  | zero => exact absurd HA.out (by simp [spec_DoAct.j0])
  | succ kj2 =>
   have H := HA.out
   clear HA
   simp only [spec_DoAct.j0] at H
   by_cases c55 : x37_2 = true
   ·subst c55
    have H1 : (some (([] : List (S67)), false)) = some (r1, r2) := by rw [if_pos rfl] at H; exact H
    clear H
    have H := H1
    clear H1
    simp only [Option.some.injEq, Prod.mk.injEq] at H
    obtain ⟨rfl, rfl⟩ := H
    have hnb56 := NB182_180.out
    have hnc56 := NB180_182.out
    have hnb57 := NB182_181.out
    have hnc57 := NB181_182.out
    have hcz58_0 : wc.cell? ⟨gb182, 0, none⟩ = some (.slice none 0 0) := bc BK182 0
    have hfz58_0 := blk_frozen BK182.out 0
    go_wp2
    refine bodyPost_ret (results_ct rfl _ _ gb182 30 #[.slice none 0 0] (0, 0) _ rfl (by (with_reducible repeat first | apply aN | apply aD | apply aA); refine blk_put (cs := #[.slice none 0 0]) ?_ 0 _ rfl; exact bk BK182) Try.underlying30 rfl (by kernel_rfl)) rfl ?_
    exact ⟨_, by first | rfl | (simp [errW_none, errW_some] <;> rfl) | (simp [*, errW_none, errW_some] <;> rfl), by first | exact Kd.R_nil _ _ _ _ _ | exact Kd.N_nil _ _ _ _ _ | exact Kd.V_nil _ _ _ _ _ | exact Kd.Q_nil _ _ _ _ _ | exact Kd.S_nil _ _ _ _ _, hS⟩
   replace c55 := Bool.eq_false_iff.mpr c55
   subst c55
   have H1 : ((spec_l03At.f kj2 l0_0 a1_1).bind fun t185 => (if t185 ≥ 0 then (if 0 ≤ t185 then (if t185 < (l0_0.length : Int) then (spec_DoAct.j1 kj2 t185 l0_0 a1_0 a1_1 a1_2 a1_3 ((rd_T67 l0_0 t185).f0) ((rd_T67 l0_0 t185).f1) ((rd_T67 l0_0 t185).f2)) else (none)) else (none)) else (spec_DoAct.j1 kj2 t185 l0_0 a1_0 a1_1 a1_2 a1_3 a1_1 (⟨#[]⟩ : ByteArray) 0))) = some (r1, r2) := by rw [if_neg (show ¬ (false = true) by decide)] at H; exact H
   clear H
   have H := H1
   clear H1
   replace H := bm H
   obtain ⟨t185, A590, H⟩ := H
   replace H : (if t185 ≥ 0 then (if 0 ≤ t185 then (if t185 < (l0_0.length : Int) then (spec_DoAct.j1 kj2 t185 l0_0 a1_0 a1_1 a1_2 a1_3 ((rd_T67 l0_0 t185).f0) ((rd_T67 l0_0 t185).f1) ((rd_T67 l0_0 t185).f2)) else (none)) else (none)) else (spec_DoAct.j1 kj2 t185 l0_0 a1_0 a1_1 a1_2 a1_3 a1_1 (⟨#[]⟩ : ByteArray) 0)) = some (r1, r2) := H
   have A59 := AM A590
   clear A590
   have HC60 := AM H
   clear H
   have hnb61 := NB180_181.out
   have hnc61 := NB181_180.out
   have hnb62 := NB180_182.out
   have hnc62 := NB182_180.out
   have hcz63_0 : wc.cell? ⟨gb180, 0, none⟩ = some (.slice A0_0 l0_0.length c0_0) := bc BK180 0
   have hfz63_0 := blk_frozen BK180.out 0
   have hnb64 := NB181_182.out
   have hnc64 := NB182_181.out
   have hcz65_0 : wc.cell? ⟨gb181, 0, none⟩ = some (.int .i64 a1_0) := bc BK181 0
   have hcz65_1 : wc.cell? ⟨gb181, 1, none⟩ = some (.string a1_1) := bc BK181 1
   have hcz65_2 : wc.cell? ⟨gb181, 2, none⟩ = some (.string a1_2) := bc BK181 2
   have hcz65_3 : wc.cell? ⟨gb181, 3, none⟩ = some (.string a1_3) := bc BK181 3
   have hfz65_0 := blk_frozen BK181.out 0
   have hfz65_1 := blk_frozen BK181.out 1
   have hfz65_2 := blk_frozen BK181.out 2
   have hfz65_3 := blk_frozen BK181.out 3
   go_upto_if 47 with (first | ((with_reducible refine gate_callee (f := 37) rfl ?_); refine goesL_ (some 42) rfl rfl Try.func37 (by kernel_rfl) rfl #[.agg #[.slice A0_0 l0_0.length c0_0], .string a1_1] rfl am ?_; (with_reducible refine (spec_l03At.calls kj2 _ _ l0_0 a1_1 t185 _ ?side1 ?side2 A59.out).mono ?_); (case side1 => repeat (first | exact (Kd.C_below HR0_0.out HB.out) | (with_reducible refine Kd.C_alloc ?_ _) | (with_reducible refine Kd.C_drewN ?_ _) | (with_reducible refine Kd.C_drew ?_))); (case side2 => exact HC0_0.out); rintro e w66 ⟨rfl, hb⟩; refine ⟨_, rfl, ?_⟩; have n0_ := AM (blk_below (bk BK180) hb); have n1_ := AM (blk_below (bk BK181) hb); have n2_ := AM (blk_below (bk BK182) hb); have n3_ := AM (below_step (hS) hb); clear BK180; clear BK181; clear BK182; clear HB; have BK180 := n0_; have BK181 := n1_; have BK182 := n2_; have HB := n3_; clear n0_ n1_ n2_ n3_; (try clear hb); have hcz67_0 : w66.cell? ⟨gb181, 0, none⟩ = some (.int .i64 a1_0) := bc BK181 0; have hcz67_1 : w66.cell? ⟨gb181, 1, none⟩ = some (.string a1_1) := bc BK181 1; have hcz67_2 : w66.cell? ⟨gb181, 2, none⟩ = some (.string a1_2) := bc BK181 2; have hcz67_3 : w66.cell? ⟨gb181, 3, none⟩ = some (.string a1_3) := bc BK181 3; have hfz67_0 := blk_frozen BK181.out 0; have hfz67_1 := blk_frozen BK181.out 1; have hfz67_2 := blk_frozen BK181.out 2; have hfz67_3 := blk_frozen BK181.out 3) | ((with_reducible refine gate_dst (N := 7) rfl ?_); refine bx (N := 7) (cs := #[.string (⟨#[]⟩ : ByteArray), .string (⟨#[]⟩ : ByteArray), .int .i64 0]) (t := 67) ?_; intro gb186 hg w68 hbox hb; have n0_ := AM (blk_below (bk BK180) hb); have n1_ := AM (blk_below (bk BK181) hb); have n2_ := AM (blk_below (bk BK182) hb); have n3_ := AM (below_step (hS) hb); have n4_ := AM (hbox); have n5_ := AM (bt hg hS); have n6_ := AM (bt hg hS); have n7_ := AM (nl hg (bk BK180)); have n8_ := AM (ng hg (bk BK180)); have n9_ := AM (nl hg (bk BK181)); have n10_ := AM (ng hg (bk BK181)); have n11_ := AM (nl hg (bk BK182)); have n12_ := AM (ng hg (bk BK182)); clear BK180; clear BK181; clear BK182; clear HB; have BK180 := n0_; have BK181 := n1_; have BK182 := n2_; have HB := n3_; have BK186 := n4_; have GW186 := n5_; have GE186 := n6_; have NB180_186 := n7_; have NB186_180 := n8_; have NB181_186 := n9_; have NB186_181 := n10_; have NB182_186 := n11_; have NB186_182 := n12_; clear n0_ n1_ n2_ n3_ n4_ n5_ n6_ n7_ n8_ n9_ n10_ n11_ n12_; clear hb hbox hg; have hnb69 := NB186_180.out; have hnc69 := NB180_186.out; have hnb70 := NB186_181.out; have hnc70 := NB181_186.out; have hnb71 := NB186_182.out; have hnc71 := NB182_186.out; have hcz72_0 : w68.cell? ⟨gb186, 0, none⟩ = some (.string (⟨#[]⟩ : ByteArray)) := bc BK186 0; have hcz72_1 : w68.cell? ⟨gb186, 1, none⟩ = some (.string (⟨#[]⟩ : ByteArray)) := bc BK186 1; have hcz72_2 : w68.cell? ⟨gb186, 2, none⟩ = some (.int .i64 0) := bc BK186 2; have hfz72_0 := blk_frozen BK186.out 0; have hfz72_1 := blk_frozen BK186.out 1; have hfz72_2 := blk_frozen BK186.out 2))
   (try simp only [Act.put, qT, q0, qS])
   go_cut [] (fun wc => ∃ (kq : Nat) (x187000_59 : ByteArray) (x187001_59 : ByteArray) (x187002_59 : Int), Aside0 (spec_DoAct.j1 kq t185 l0_0 a1_0 a1_1 a1_2 a1_3 x187000_59 x187001_59 x187002_59 = some (r1, r2)) ∧ Aside0 (kq ≤ kj2) ∧ Aside0 (wc.heap[gb180]? = some (.cells #[(.slice A0_0 l0_0.length c0_0)] 30 (0, 0))) ∧ Aside0 (wc.heap[gb181]? = some (.cells #[.int .i64 a1_0, .string a1_1, .string a1_2, .string a1_3] 41 (0, 0))) ∧ Aside0 (wc.heap[gb182]? = some (.cells #[(.slice none 0 0)] 30 (0, 0))) ∧ Aside0 (wc.heap[gb186]? = some (.cells #[.string x187000_59, .string x187001_59, .int .i64 x187002_59] 67 (0, 0))) ∧ Aside0 (Below w.heap.size w wc))
   case first =>
    have H := HC60.out
    clear HC60
    by_cases c73 : t185 ≥ 0
    ·rw [if_pos c73] at H
     have c73b0 : decide (0 ≤ t185) = true := decide_eq_true c73
     clear c73
     (first | rw [c73b0] | (simp only [i64_w, i32_w]; rw [c73b0]) | rw [c73b1] | skip)
     by_cases c74 : 0 ≤ t185
     ·rw [if_pos c74] at H
      have c74b0 : decide (0 ≤ t185) = true := decide_eq_true c74
      clear c74
      by_cases c75 : t185 < (l0_0.length : Int)
      ·rw [if_pos c75] at H
       have c75b0 : decide (t185 < (l0_0.length : Int)) = true := decide_eq_true c75
       clear c75
       have H' := AM H
       clear H
       have hnb76 := NB180_181.out
       have hnc76 := NB181_180.out
       have hnb77 := NB180_182.out
       have hnc77 := NB182_180.out
       have hnb78 := NB180_186.out
       have hnc78 := NB186_180.out
       have hcz79_0 : w68.cell? ⟨gb180, 0, none⟩ = some (.slice A0_0 l0_0.length c0_0) := bc BK180 0
       have hfz79_0 := blk_frozen BK180.out 0
       have p187 : 0 ≤ (t185 : Int) := od
       have q187 : t185 < (l0_0.length : Int) := od
       obtain ⟨ad187, e187, hx187_0, hx187_1, hx187_2⟩ := at_T67 HR0_0.out t185 p187 q187
       cases e187
       have hn187_0 : ad187.block ≠ gb186 := Nat.ne_of_lt (Nat.lt_of_lt_of_le (by have := World.block_lt_of_cell? _ _ hx187_0; first | rwa [add_block] at this | exact this) GW186.out)
       have hn187_1 : ad187.block ≠ gb186 := Nat.ne_of_lt (Nat.lt_of_lt_of_le (by have := World.block_lt_of_cell? _ _ hx187_0; first | rwa [add_block] at this | exact this) GW186.out)
       have hn187_2 : ad187.block ≠ gb186 := Nat.ne_of_lt (Nat.lt_of_lt_of_le (by have := World.block_lt_of_cell? _ _ hx187_0; first | rwa [add_block] at this | exact this) GW186.out)
       replace hx187_0 := cl HB hx187_0
       replace hx187_1 := cl HB hx187_1
       replace hx187_2 := cl HB hx187_2
       replace hx187_0 := (cell_far (p := ⟨gb186, 0, none⟩) (by first | (rw [add_block]; exact hn187_0) | (show (Addr.add _ _).block ≠ _; rw [add_block]; exact hn187_0) | exact hn187_0) (.string a1_1)).trans hx187_0
       replace hx187_1 := (cell_far (p := ⟨gb186, 0, none⟩) (by first | (rw [add_block]; exact hn187_0) | (show (Addr.add _ _).block ≠ _; rw [add_block]; exact hn187_0) | exact hn187_0) (.string a1_1)).trans hx187_1
       replace hx187_2 := (cell_far (p := ⟨gb186, 0, none⟩) (by first | (rw [add_block]; exact hn187_0) | (show (Addr.add _ _).block ≠ _; rw [add_block]; exact hn187_0) | exact hn187_0) (.string a1_1)).trans hx187_2
       replace hx187_0 := (cell_far (p := ⟨gb186, 1, none⟩) (by first | (rw [add_block]; exact hn187_1) | (show (Addr.add _ _).block ≠ _; rw [add_block]; exact hn187_1) | exact hn187_1) (.string (⟨#[]⟩ : ByteArray))).trans hx187_0
       replace hx187_1 := (cell_far (p := ⟨gb186, 1, none⟩) (by first | (rw [add_block]; exact hn187_1) | (show (Addr.add _ _).block ≠ _; rw [add_block]; exact hn187_1) | exact hn187_1) (.string (⟨#[]⟩ : ByteArray))).trans hx187_1
       replace hx187_2 := (cell_far (p := ⟨gb186, 1, none⟩) (by first | (rw [add_block]; exact hn187_1) | (show (Addr.add _ _).block ≠ _; rw [add_block]; exact hn187_1) | exact hn187_1) (.string (⟨#[]⟩ : ByteArray))).trans hx187_2
       replace hx187_0 := (cell_far (p := ⟨gb186, 2, none⟩) (by first | (rw [add_block]; exact hn187_2) | (show (Addr.add _ _).block ≠ _; rw [add_block]; exact hn187_2) | exact hn187_2) (.int .i64 0)).trans hx187_0
       replace hx187_1 := (cell_far (p := ⟨gb186, 2, none⟩) (by first | (rw [add_block]; exact hn187_2) | (show (Addr.add _ _).block ≠ _; rw [add_block]; exact hn187_2) | exact hn187_2) (.int .i64 0)).trans hx187_1
       replace hx187_2 := (cell_far (p := ⟨gb186, 2, none⟩) (by first | (rw [add_block]; exact hn187_2) | (show (Addr.add _ _).block ≠ _; rw [add_block]; exact hn187_2) | exact hn187_2) (.int .i64 0)).trans hx187_2
       clear hn187_0
       clear hn187_1
       clear hn187_2
       replace p187 := eq_true p187
       replace q187 := eq_true q187
       have hnb80 := NB186_181.out
       have hnc80 := NB181_186.out
       have hnb81 := NB186_182.out
       have hnc81 := NB182_186.out
       have hcz82_0 : w68.cell? ⟨gb186, 0, none⟩ = some (.string (⟨#[]⟩ : ByteArray)) := bc BK186 0
       have hcz82_1 : w68.cell? ⟨gb186, 1, none⟩ = some (.string (⟨#[]⟩ : ByteArray)) := bc BK186 1
       have hcz82_2 : w68.cell? ⟨gb186, 2, none⟩ = some (.int .i64 0) := bc BK186 2
       have hfz82_0 := blk_frozen BK186.out 0
       have hfz82_1 := blk_frozen BK186.out 1
       have hfz82_2 := blk_frozen BK186.out 2
       go_wp2
       go_meet
       case rel => exact ⟨_, ((rd_T67 l0_0 t185).f0), ((rd_T67 l0_0 t185).f1), ((rd_T67 l0_0 t185).f2), H', ⟨by have := HJ2.out; first | omega | exact Nat.le_refl _⟩, ⟨be⟩, ⟨be⟩, ⟨be⟩, ⟨by (with_reducible repeat first | apply aN | apply aD | apply aA); refine blk_put (cs := #[.string ((rd_T67 l0_0 t185).f0), .string ((rd_T67 l0_0 t185).f1), .int .i64 0]) ?_ 2 _ rfl; (with_reducible repeat first | apply aN | apply aD | apply aA); refine blk_put (cs := #[.string ((rd_T67 l0_0 t185).f0), .string (⟨#[]⟩ : ByteArray), .int .i64 0]) ?_ 1 _ rfl; (with_reducible repeat first | apply aN | apply aD | apply aA); refine blk_put (cs := #[.string a1_1, .string (⟨#[]⟩ : ByteArray), .int .i64 0]) ?_ 0 _ rfl; (with_reducible repeat first | apply aN | apply aD | apply aA); refine blk_put (cs := #[.string a1_1, .string (⟨#[]⟩ : ByteArray), .int .i64 0]) ?_ 2 _ rfl; (with_reducible repeat first | apply aN | apply aD | apply aA); refine blk_put (cs := #[.string a1_1, .string (⟨#[]⟩ : ByteArray), .int .i64 0]) ?_ 1 _ rfl; (with_reducible repeat first | apply aN | apply aD | apply aA); refine blk_put (cs := #[.string (⟨#[]⟩ : ByteArray), .string (⟨#[]⟩ : ByteArray), .int .i64 0]) ?_ 0 _ rfl; exact bk BK186⟩, ⟨hS⟩⟩
      rw [if_neg c75] at H
      exact absurd H (by simp)
     rw [if_neg c74] at H
     exact absurd H (by simp)
    rw [if_neg c73] at H
    have c73b0 : decide (0 ≤ t185) = false := decide_eq_false c73
    clear c73
    (first | rw [c73b0] | (simp only [i64_w, i32_w]; rw [c73b0]) | rw [c73b1] | skip)
    have H' := AM H
    clear H
    go_wp2
    go_meet
    case rel => exact ⟨_, (a1_1), ((⟨#[]⟩ : ByteArray)), (0), H', ⟨by have := HJ2.out; first | omega | exact Nat.le_refl _⟩, ⟨be⟩, ⟨be⟩, ⟨be⟩, ⟨by (with_reducible repeat first | apply aN | apply aD | apply aA); refine blk_put (cs := #[.string a1_1, .string (⟨#[]⟩ : ByteArray), .int .i64 0]) ?_ 2 _ rfl; (with_reducible repeat first | apply aN | apply aD | apply aA); refine blk_put (cs := #[.string a1_1, .string (⟨#[]⟩ : ByteArray), .int .i64 0]) ?_ 1 _ rfl; (with_reducible repeat first | apply aN | apply aD | apply aA); refine blk_put (cs := #[.string (⟨#[]⟩ : ByteArray), .string (⟨#[]⟩ : ByteArray), .int .i64 0]) ?_ 0 _ rfl; exact bk BK186⟩, ⟨hS⟩⟩
   case rest =>
    clear HC60
    obtain ⟨kq, x187000_59, x187001_59, x187002_59, HA, HJ59, BK180, BK181, BK182, BK186, HB⟩ := hcut
    cases kq with
    | zero => exact absurd HA.out (by simp [spec_DoAct.j1])
    | succ kj59 =>
     have H := HA.out
     clear HA
     simp only [spec_DoAct.j1] at H
     by_cases c83 : a1_0 = 1
     ·rw [if_pos c83] at H
      have c83b0 : (a1_0 == 1) = true := beq_iff_eq.mpr c83
      have c83b1 : (a1_0 != 1) = false := bne_eq_false_iff_eq.mpr c83
      clear c83
      by_cases c84 : x187001_59.size + a1_2.size ≤ 9223372036854775807
      ·rw [if_pos c84] at H
       have c84b0 := eq_true c84
       have c84b1 : decide (x187001_59.size + a1_2.size ≤ 9223372036854775807) = true := decide_eq_true c84
       try have c84b2 : (9223372036854775807 < x187001_59.size + a1_2.size) = False := eq_false (Nat.not_lt.2 c84)
       replace H := bm H
       obtain ⟨t189, A850, H⟩ := H
       replace H : ((spec_DiskOk.f kj59 t189).bind fun t192 => (if t192 = true then (some (t189, true)) else (some (([] : List (S67)), false)))) = some (r1, r2) := H
       have A85 := AM A850
       clear A850
       replace H := bm H
       obtain ⟨t192, A860, H⟩ := H
       replace H : (if t192 = true then (some (t189, true)) else (some (([] : List (S67)), false))) = some (r1, r2) := H
       have A86 := AM A860
       clear A860
       by_cases c87 : t192 = true
       ·subst c87
        have H1 : (some (t189, true)) = some (r1, r2) := by rw [if_pos rfl] at H; exact H
        clear H
        have H := H1
        clear H1
        simp only [Option.some.injEq, Prod.mk.injEq] at H
        obtain ⟨rfl, rfl⟩ := H
        go_wp2_with (first | ((with_reducible refine gate_dst (N := 8) rfl ?_); refine bx (N := 8) (cs := #[.slice none 0 0]) (t := 30) ?_; intro gb188 hg w88 hbox hb; have n0_ := AM (blk_below (bk BK180) hb); have n1_ := AM (blk_below (bk BK181) hb); have n2_ := AM (blk_below (bk BK182) hb); have n3_ := AM (blk_below (bk BK186) hb); have n4_ := AM (below_step (hS) hb); have n5_ := AM (hbox); have n6_ := AM (bt hg hS); have n7_ := AM (bt hg hS); have n8_ := AM (nl hg (bk BK180)); have n9_ := AM (ng hg (bk BK180)); have n10_ := AM (nl hg (bk BK181)); have n11_ := AM (ng hg (bk BK181)); have n12_ := AM (nl hg (bk BK182)); have n13_ := AM (ng hg (bk BK182)); have n14_ := AM (nl hg (bk BK186)); have n15_ := AM (ng hg (bk BK186)); clear BK180; clear BK181; clear BK182; clear BK186; clear HB; have BK180 := n0_; have BK181 := n1_; have BK182 := n2_; have BK186 := n3_; have HB := n4_; have BK188 := n5_; have GW188 := n6_; have GE188 := n7_; have NB180_188 := n8_; have NB188_180 := n9_; have NB181_188 := n10_; have NB188_181 := n11_; have NB182_188 := n12_; have NB188_182 := n13_; have NB186_188 := n14_; have NB188_186 := n15_; clear n0_ n1_ n2_ n3_ n4_ n5_ n6_ n7_ n8_ n9_ n10_ n11_ n12_ n13_ n14_ n15_; clear hb hbox hg; have hnb89 := NB188_180.out; have hnc89 := NB180_188.out; have hnb90 := NB188_181.out; have hnc90 := NB181_188.out; have hnb91 := NB188_182.out; have hnc91 := NB182_188.out; have hnb92 := NB188_186.out; have hnc92 := NB186_188.out; have hcz93_0 : w88.cell? ⟨gb188, 0, none⟩ = some (.slice none 0 0) := bc BK188 0; have hfz93_0 := blk_frozen BK188.out 0; have hnb94 := NB181_180.out; have hnc94 := NB180_181.out; have hnb95 := NB181_182.out; have hnc95 := NB182_181.out; have hnb96 := NB181_186.out; have hnc96 := NB186_181.out; have hcz97_0 : w88.cell? ⟨gb181, 0, none⟩ = some (.int .i64 a1_0) := bc BK181 0; have hcz97_1 : w88.cell? ⟨gb181, 1, none⟩ = some (.string a1_1) := bc BK181 1; have hcz97_2 : w88.cell? ⟨gb181, 2, none⟩ = some (.string a1_2) := bc BK181 2; have hcz97_3 : w88.cell? ⟨gb181, 3, none⟩ = some (.string a1_3) := bc BK181 3; have hfz97_0 := blk_frozen BK181.out 0; have hfz97_1 := blk_frozen BK181.out 1; have hfz97_2 := blk_frozen BK181.out 2; have hfz97_3 := blk_frozen BK181.out 3; have hnb98 := NB186_180.out; have hnc98 := NB180_186.out; have hnb99 := NB186_182.out; have hnc99 := NB182_186.out; have hcz100_0 : w88.cell? ⟨gb186, 0, none⟩ = some (.string x187000_59) := bc BK186 0; have hcz100_1 : w88.cell? ⟨gb186, 1, none⟩ = some (.string x187001_59) := bc BK186 1; have hcz100_2 : w88.cell? ⟨gb186, 2, none⟩ = some (.int .i64 x187002_59) := bc BK186 2; have hfz100_0 := blk_frozen BK186.out 0; have hfz100_1 := blk_frozen BK186.out 1; have hfz100_2 := blk_frozen BK186.out 2; have hnb101 := NB180_182.out; have hnc101 := NB182_180.out; have hcz102_0 : w88.cell? ⟨gb180, 0, none⟩ = some (.slice A0_0 l0_0.length c0_0) := bc BK180 0; have hfz102_0 := blk_frozen BK180.out 0) | ((with_reducible refine gate_callee (f := 46) rfl ?_); refine goesL_ (some 67) rfl rfl Try.func46 (by kernel_rfl) rfl #[.agg #[.slice A0_0 l0_0.length c0_0], .agg #[.string x187000_59, .string (x187001_59 ++ a1_2), .int .i64 x187002_59]] rfl am ?_; (with_reducible refine (spec_l03Put.calls kj59 _ _ l0_0 x187000_59 (x187001_59 ++ a1_2) x187002_59 t189 _ ?side1 ?side2 A85.out).mono ?_); (case side1 => exact Kd.C_below HR0_0.out (hS)); (case side2 => exact HC0_0.out); rintro e w103 ⟨v190, rfl, ho0, hb⟩; refine ⟨_, rfl, ?_⟩; have n0_ := AM (Kd.R_lower (Kd.R_newB ho0 (g := gb186) (o := .cells #[.string x187000_59, .string (x187001_59 ++ a1_2), .int .i64 x187002_59] 67 (0, 0)) (by (with_reducible repeat first | apply aN | apply aD | apply aA); refine blk_put (cs := #[.string x187000_59, .string x187001_59, .int .i64 x187002_59]) ?_ 1 _ rfl; (with_reducible repeat first | apply aN | apply aD | apply aA); refine blk_far ?_ NB186_188.out _; exact bk BK186)) (below_size (hS))); have n1_ := AM (blk_below (g := gb180) (o := .cells #[.slice A0_0 l0_0.length c0_0] 30 (0, 0)) (be) hb); have n2_ := AM (blk_below (g := gb181) (o := .cells #[.int .i64 a1_0, .string a1_1, .string a1_2, .string a1_3] 41 (0, 0)) (be) hb); have n3_ := AM (blk_below (g := gb182) (o := .cells #[.slice none 0 0] 30 (0, 0)) (be) hb); have n4_ := AM (blk_below (g := gb186) (o := .cells #[.string x187000_59, .string (x187001_59 ++ a1_2), .int .i64 x187002_59] 67 (0, 0)) (by (with_reducible repeat first | apply aN | apply aD | apply aA); refine blk_put (cs := #[.string x187000_59, .string x187001_59, .int .i64 x187002_59]) ?_ 1 _ rfl; (with_reducible repeat first | apply aN | apply aD | apply aA); refine blk_far ?_ NB186_188.out _; exact bk BK186) hb); have n5_ := AM (blk_below (g := gb188) (o := .cells #[.slice none 0 0] 30 (0, 0)) (by (with_reducible repeat first | apply aN | apply aD | apply aA); refine blk_far ?_ NB188_186.out _; (with_reducible repeat first | apply aN | apply aD | apply aA); refine blk_put (cs := #[.slice none 0 0]) ?_ 0 _ rfl; exact bk BK188) hb); have n6_ := AM (below_step (hS) hb); clear BK180; clear BK181; clear BK182; clear BK186; clear BK188; clear HB; have HO191 := n0_; have BK180 := n1_; have BK181 := n2_; have BK182 := n3_; have BK186 := n4_; have BK188 := n5_; have HB := n6_; clear n0_ n1_ n2_ n3_ n4_ n5_ n6_; (try clear hb); (try clear ho0); obtain ⟨Ao104, co104, eo104⟩ := Kd.R_slice HO191.out; subst eo104; have hcz105_0 : w103.cell? ⟨gb188, 0, none⟩ = some (.slice none 0 0) := bc BK188 0; have hfz105_0 := blk_frozen BK188.out 0) | ((with_reducible refine gate_callee (f := 41) rfl ?_); refine goesL_ (some 125) rfl rfl Try.func41 (by kernel_rfl) rfl #[.agg #[.slice Ao104 t189.length co104]] rfl am ?_; (with_reducible refine (spec_DiskOk.calls kj59 _ _ t189 true _ ?side1 ?side2 A86.out).mono ?_); (case side1 => refine (Kd.R_reads' (e := 67) (base := w.heap.size) (ok := fun k_ => (True ∧ k_ ≠ gb186)) (n := t189.length) (c := co104) ?_).2.2; exact (by exact (Kd.R_mono (Kd.R_far (p := ⟨gb188, 0, none⟩) (Kd.R_types HO191.out BK188.out (by decide)) (fun _ hk => hk.2) (.slice Ao104 t189.length co104)) (fun _ h_ => h_.1)))); (case side2 => exact (Kd.R_reads' HO191.out).2.1); rintro e w106 ⟨rfl, hb⟩; refine ⟨_, rfl, ?_⟩; have n0_ := AM (Kd.R_below (by exact (Kd.R_mono (Kd.R_far (p := ⟨gb188, 0, none⟩) (Kd.R_types HO191.out BK188.out (by decide)) (fun _ hk => hk.2) (.slice Ao104 t189.length co104)) (fun _ h_ => h_.1))) hb); have n1_ := AM (blk_below (g := gb180) (o := .cells #[.slice A0_0 l0_0.length c0_0] 30 (0, 0)) (be) hb); have n2_ := AM (blk_below (g := gb181) (o := .cells #[.int .i64 a1_0, .string a1_1, .string a1_2, .string a1_3] 41 (0, 0)) (be) hb); have n3_ := AM (blk_below (g := gb182) (o := .cells #[.slice none 0 0] 30 (0, 0)) (be) hb); have n4_ := AM (blk_below (g := gb186) (o := .cells #[.string x187000_59, .string (x187001_59 ++ a1_2), .int .i64 x187002_59] 67 (0, 0)) (be) hb); have n5_ := AM (blk_below (g := gb188) (o := .cells #[.slice Ao104 t189.length co104] 30 (0, 0)) (by (with_reducible repeat first | apply aN | apply aD | apply aA); refine blk_put (cs := #[.slice none 0 0]) ?_ 0 _ rfl; exact bk BK188) hb); have n6_ := AM (below_step (hS) hb); clear HO191; clear BK180; clear BK181; clear BK182; clear BK186; clear BK188; clear HB; have HO191 := n0_; have BK180 := n1_; have BK181 := n2_; have BK182 := n3_; have BK186 := n4_; have BK188 := n5_; have HB := n6_; clear n0_ n1_ n2_ n3_ n4_ n5_ n6_; (try clear hb); (try clear hk); have hcz107_0 : w106.cell? ⟨gb188, 0, none⟩ = some (.slice Ao104 t189.length co104) := bc BK188 0; have hfz107_0 := blk_frozen BK188.out 0; have hcz108_0 : w106.cell? ⟨gb182, 0, none⟩ = some (.slice none 0 0) := bc BK182 0; have hfz108_0 := blk_frozen BK182.out 0))
        refine bodyPost_ret (results_ct rfl _ _ gb182 30 #[.slice Ao104 t189.length co104] (0, 0) _ rfl (by (with_reducible repeat first | apply aN | apply aD | apply aA); refine blk_put (cs := #[.slice none 0 0]) ?_ 0 _ rfl; exact bk BK182) Try.underlying30 rfl (by kernel_rfl)) rfl ?_
        exact ⟨_, by first | rfl | (simp [errW_none, errW_some] <;> rfl) | (simp [*, errW_none, errW_some] <;> rfl), by exact Kd.R_mono (Kd.R_far (p := ⟨gb182, 0, none⟩) (Kd.R_types HO191.out BK182.out (by decide)) (fun _ hk => hk.2) (.slice Ao104 t189.length co104)) (fun _ hk => trivial), hS⟩
       replace c87 := Bool.eq_false_iff.mpr c87
       subst c87
       have H1 : (some (([] : List (S67)), false)) = some (r1, r2) := by rw [if_neg (show ¬ (false = true) by decide)] at H; exact H
       clear H
       have H := H1
       clear H1
       simp only [Option.some.injEq, Prod.mk.injEq] at H
       obtain ⟨rfl, rfl⟩ := H
       go_wp2_with (first | ((with_reducible refine gate_dst (N := 8) rfl ?_); refine bx (N := 8) (cs := #[.slice none 0 0]) (t := 30) ?_; intro gb188 hg w109 hbox hb; have n0_ := AM (blk_below (bk BK180) hb); have n1_ := AM (blk_below (bk BK181) hb); have n2_ := AM (blk_below (bk BK182) hb); have n3_ := AM (blk_below (bk BK186) hb); have n4_ := AM (below_step (hS) hb); have n5_ := AM (hbox); have n6_ := AM (bt hg hS); have n7_ := AM (bt hg hS); have n8_ := AM (nl hg (bk BK180)); have n9_ := AM (ng hg (bk BK180)); have n10_ := AM (nl hg (bk BK181)); have n11_ := AM (ng hg (bk BK181)); have n12_ := AM (nl hg (bk BK182)); have n13_ := AM (ng hg (bk BK182)); have n14_ := AM (nl hg (bk BK186)); have n15_ := AM (ng hg (bk BK186)); clear BK180; clear BK181; clear BK182; clear BK186; clear HB; have BK180 := n0_; have BK181 := n1_; have BK182 := n2_; have BK186 := n3_; have HB := n4_; have BK188 := n5_; have GW188 := n6_; have GE188 := n7_; have NB180_188 := n8_; have NB188_180 := n9_; have NB181_188 := n10_; have NB188_181 := n11_; have NB182_188 := n12_; have NB188_182 := n13_; have NB186_188 := n14_; have NB188_186 := n15_; clear n0_ n1_ n2_ n3_ n4_ n5_ n6_ n7_ n8_ n9_ n10_ n11_ n12_ n13_ n14_ n15_; clear hb hbox hg; have hnb110 := NB188_180.out; have hnc110 := NB180_188.out; have hnb111 := NB188_181.out; have hnc111 := NB181_188.out; have hnb112 := NB188_182.out; have hnc112 := NB182_188.out; have hnb113 := NB188_186.out; have hnc113 := NB186_188.out; have hcz114_0 : w109.cell? ⟨gb188, 0, none⟩ = some (.slice none 0 0) := bc BK188 0; have hfz114_0 := blk_frozen BK188.out 0; have hnb115 := NB181_180.out; have hnc115 := NB180_181.out; have hnb116 := NB181_182.out; have hnc116 := NB182_181.out; have hnb117 := NB181_186.out; have hnc117 := NB186_181.out; have hcz118_0 : w109.cell? ⟨gb181, 0, none⟩ = some (.int .i64 a1_0) := bc BK181 0; have hcz118_1 : w109.cell? ⟨gb181, 1, none⟩ = some (.string a1_1) := bc BK181 1; have hcz118_2 : w109.cell? ⟨gb181, 2, none⟩ = some (.string a1_2) := bc BK181 2; have hcz118_3 : w109.cell? ⟨gb181, 3, none⟩ = some (.string a1_3) := bc BK181 3; have hfz118_0 := blk_frozen BK181.out 0; have hfz118_1 := blk_frozen BK181.out 1; have hfz118_2 := blk_frozen BK181.out 2; have hfz118_3 := blk_frozen BK181.out 3; have hnb119 := NB186_180.out; have hnc119 := NB180_186.out; have hnb120 := NB186_182.out; have hnc120 := NB182_186.out; have hcz121_0 : w109.cell? ⟨gb186, 0, none⟩ = some (.string x187000_59) := bc BK186 0; have hcz121_1 : w109.cell? ⟨gb186, 1, none⟩ = some (.string x187001_59) := bc BK186 1; have hcz121_2 : w109.cell? ⟨gb186, 2, none⟩ = some (.int .i64 x187002_59) := bc BK186 2; have hfz121_0 := blk_frozen BK186.out 0; have hfz121_1 := blk_frozen BK186.out 1; have hfz121_2 := blk_frozen BK186.out 2; have hnb122 := NB180_182.out; have hnc122 := NB182_180.out; have hcz123_0 : w109.cell? ⟨gb180, 0, none⟩ = some (.slice A0_0 l0_0.length c0_0) := bc BK180 0; have hfz123_0 := blk_frozen BK180.out 0) | ((with_reducible refine gate_callee (f := 46) rfl ?_); refine goesL_ (some 67) rfl rfl Try.func46 (by kernel_rfl) rfl #[.agg #[.slice A0_0 l0_0.length c0_0], .agg #[.string x187000_59, .string (x187001_59 ++ a1_2), .int .i64 x187002_59]] rfl am ?_; (with_reducible refine (spec_l03Put.calls kj59 _ _ l0_0 x187000_59 (x187001_59 ++ a1_2) x187002_59 t189 _ ?side1 ?side2 A85.out).mono ?_); (case side1 => exact Kd.C_below HR0_0.out (hS)); (case side2 => exact HC0_0.out); rintro e w124 ⟨v190, rfl, ho0, hb⟩; refine ⟨_, rfl, ?_⟩; have n0_ := AM (Kd.R_lower (Kd.R_newB ho0 (g := gb186) (o := .cells #[.string x187000_59, .string (x187001_59 ++ a1_2), .int .i64 x187002_59] 67 (0, 0)) (by (with_reducible repeat first | apply aN | apply aD | apply aA); refine blk_put (cs := #[.string x187000_59, .string x187001_59, .int .i64 x187002_59]) ?_ 1 _ rfl; (with_reducible repeat first | apply aN | apply aD | apply aA); refine blk_far ?_ NB186_188.out _; exact bk BK186)) (below_size (hS))); have n1_ := AM (blk_below (g := gb180) (o := .cells #[.slice A0_0 l0_0.length c0_0] 30 (0, 0)) (be) hb); have n2_ := AM (blk_below (g := gb181) (o := .cells #[.int .i64 a1_0, .string a1_1, .string a1_2, .string a1_3] 41 (0, 0)) (be) hb); have n3_ := AM (blk_below (g := gb182) (o := .cells #[.slice none 0 0] 30 (0, 0)) (be) hb); have n4_ := AM (blk_below (g := gb186) (o := .cells #[.string x187000_59, .string (x187001_59 ++ a1_2), .int .i64 x187002_59] 67 (0, 0)) (by (with_reducible repeat first | apply aN | apply aD | apply aA); refine blk_put (cs := #[.string x187000_59, .string x187001_59, .int .i64 x187002_59]) ?_ 1 _ rfl; (with_reducible repeat first | apply aN | apply aD | apply aA); refine blk_far ?_ NB186_188.out _; exact bk BK186) hb); have n5_ := AM (blk_below (g := gb188) (o := .cells #[.slice none 0 0] 30 (0, 0)) (by (with_reducible repeat first | apply aN | apply aD | apply aA); refine blk_far ?_ NB188_186.out _; (with_reducible repeat first | apply aN | apply aD | apply aA); refine blk_put (cs := #[.slice none 0 0]) ?_ 0 _ rfl; exact bk BK188) hb); have n6_ := AM (below_step (hS) hb); clear BK180; clear BK181; clear BK182; clear BK186; clear BK188; clear HB; have HO191 := n0_; have BK180 := n1_; have BK181 := n2_; have BK182 := n3_; have BK186 := n4_; have BK188 := n5_; have HB := n6_; clear n0_ n1_ n2_ n3_ n4_ n5_ n6_; (try clear hb); (try clear ho0); obtain ⟨Ao125, co125, eo125⟩ := Kd.R_slice HO191.out; subst eo125; have hcz126_0 : w124.cell? ⟨gb188, 0, none⟩ = some (.slice none 0 0) := bc BK188 0; have hfz126_0 := blk_frozen BK188.out 0) | ((with_reducible refine gate_callee (f := 41) rfl ?_); refine goesL_ (some 125) rfl rfl Try.func41 (by kernel_rfl) rfl #[.agg #[.slice Ao125 t189.length co125]] rfl am ?_; (with_reducible refine (spec_DiskOk.calls kj59 _ _ t189 false _ ?side1 ?side2 A86.out).mono ?_); (case side1 => refine (Kd.R_reads' (e := 67) (base := w.heap.size) (ok := fun k_ => (True ∧ k_ ≠ gb186)) (n := t189.length) (c := co125) ?_).2.2; exact (by exact (Kd.R_mono (Kd.R_far (p := ⟨gb188, 0, none⟩) (Kd.R_types HO191.out BK188.out (by decide)) (fun _ hk => hk.2) (.slice Ao125 t189.length co125)) (fun _ h_ => h_.1)))); (case side2 => exact (Kd.R_reads' HO191.out).2.1); rintro e w127 ⟨rfl, hb⟩; refine ⟨_, rfl, ?_⟩; have n0_ := AM (Kd.R_below (by exact (Kd.R_mono (Kd.R_far (p := ⟨gb188, 0, none⟩) (Kd.R_types HO191.out BK188.out (by decide)) (fun _ hk => hk.2) (.slice Ao125 t189.length co125)) (fun _ h_ => h_.1))) hb); have n1_ := AM (blk_below (g := gb180) (o := .cells #[.slice A0_0 l0_0.length c0_0] 30 (0, 0)) (be) hb); have n2_ := AM (blk_below (g := gb181) (o := .cells #[.int .i64 a1_0, .string a1_1, .string a1_2, .string a1_3] 41 (0, 0)) (be) hb); have n3_ := AM (blk_below (g := gb182) (o := .cells #[.slice none 0 0] 30 (0, 0)) (be) hb); have n4_ := AM (blk_below (g := gb186) (o := .cells #[.string x187000_59, .string (x187001_59 ++ a1_2), .int .i64 x187002_59] 67 (0, 0)) (be) hb); have n5_ := AM (blk_below (g := gb188) (o := .cells #[.slice Ao125 t189.length co125] 30 (0, 0)) (by (with_reducible repeat first | apply aN | apply aD | apply aA); refine blk_put (cs := #[.slice none 0 0]) ?_ 0 _ rfl; exact bk BK188) hb); have n6_ := AM (below_step (hS) hb); clear HO191; clear BK180; clear BK181; clear BK182; clear BK186; clear BK188; clear HB; have HO191 := n0_; have BK180 := n1_; have BK181 := n2_; have BK182 := n3_; have BK186 := n4_; have BK188 := n5_; have HB := n6_; clear n0_ n1_ n2_ n3_ n4_ n5_ n6_; (try clear hb); (try clear hk); have hcz128_0 : w127.cell? ⟨gb182, 0, none⟩ = some (.slice none 0 0) := bc BK182 0; have hfz128_0 := blk_frozen BK182.out 0))
       refine bodyPost_ret (results_ct rfl _ _ gb182 30 #[.slice none 0 0] (0, 0) _ rfl (by (with_reducible repeat first | apply aN | apply aD | apply aA); refine blk_put (cs := #[.slice none 0 0]) ?_ 0 _ rfl; exact bk BK182) Try.underlying30 rfl (by kernel_rfl)) rfl ?_
       exact ⟨_, by first | rfl | (simp [errW_none, errW_some] <;> rfl) | (simp [*, errW_none, errW_some] <;> rfl), by first | exact Kd.R_nil _ _ _ _ _ | exact Kd.N_nil _ _ _ _ _ | exact Kd.V_nil _ _ _ _ _ | exact Kd.Q_nil _ _ _ _ _ | exact Kd.S_nil _ _ _ _ _, hS⟩
      rw [if_neg c84] at H
      exact absurd H (by simp)
     rw [if_neg c83] at H
     have c83b0 : (a1_0 == 1) = false := beq_eq_false_iff_ne.mpr c83
     have c83b1 : (a1_0 != 1) = true := bne_iff_ne.mpr c83
     by_cases c129 : t185 < 0
     ·rw [if_pos c129] at H
      have c129b0 : decide (t185 < 0) = true := decide_eq_true c129
      clear c129
      simp only [Option.some.injEq, Prod.mk.injEq] at H
      obtain ⟨rfl, rfl⟩ := H
      go_wp2_with (first | ((with_reducible refine gate_dst (N := 8) rfl ?_); refine bx (N := 8) (cs := #[.slice none 0 0]) (t := 30) ?_; intro gb188 hg w130 hbox hb; have n0_ := AM (blk_below (bk BK180) hb); have n1_ := AM (blk_below (bk BK181) hb); have n2_ := AM (blk_below (bk BK182) hb); have n3_ := AM (blk_below (bk BK186) hb); have n4_ := AM (below_step (hS) hb); have n5_ := AM (hbox); have n6_ := AM (bt hg hS); have n7_ := AM (bt hg hS); have n8_ := AM (nl hg (bk BK180)); have n9_ := AM (ng hg (bk BK180)); have n10_ := AM (nl hg (bk BK181)); have n11_ := AM (ng hg (bk BK181)); have n12_ := AM (nl hg (bk BK182)); have n13_ := AM (ng hg (bk BK182)); have n14_ := AM (nl hg (bk BK186)); have n15_ := AM (ng hg (bk BK186)); clear BK180; clear BK181; clear BK182; clear BK186; clear HB; have BK180 := n0_; have BK181 := n1_; have BK182 := n2_; have BK186 := n3_; have HB := n4_; have BK188 := n5_; have GW188 := n6_; have GE188 := n7_; have NB180_188 := n8_; have NB188_180 := n9_; have NB181_188 := n10_; have NB188_181 := n11_; have NB182_188 := n12_; have NB188_182 := n13_; have NB186_188 := n14_; have NB188_186 := n15_; clear n0_ n1_ n2_ n3_ n4_ n5_ n6_ n7_ n8_ n9_ n10_ n11_ n12_ n13_ n14_ n15_; clear hb hbox hg; have hnb131 := NB188_180.out; have hnc131 := NB180_188.out; have hnb132 := NB188_181.out; have hnc132 := NB181_188.out; have hnb133 := NB188_182.out; have hnc133 := NB182_188.out; have hnb134 := NB188_186.out; have hnc134 := NB186_188.out; have hcz135_0 : w130.cell? ⟨gb188, 0, none⟩ = some (.slice none 0 0) := bc BK188 0; have hfz135_0 := blk_frozen BK188.out 0; have hnb136 := NB181_180.out; have hnc136 := NB180_181.out; have hnb137 := NB181_182.out; have hnc137 := NB182_181.out; have hnb138 := NB181_186.out; have hnc138 := NB186_181.out; have hcz139_0 : w130.cell? ⟨gb181, 0, none⟩ = some (.int .i64 a1_0) := bc BK181 0; have hcz139_1 : w130.cell? ⟨gb181, 1, none⟩ = some (.string a1_1) := bc BK181 1; have hcz139_2 : w130.cell? ⟨gb181, 2, none⟩ = some (.string a1_2) := bc BK181 2; have hcz139_3 : w130.cell? ⟨gb181, 3, none⟩ = some (.string a1_3) := bc BK181 3; have hfz139_0 := blk_frozen BK181.out 0; have hfz139_1 := blk_frozen BK181.out 1; have hfz139_2 := blk_frozen BK181.out 2; have hfz139_3 := blk_frozen BK181.out 3; have hnb140 := NB182_180.out; have hnc140 := NB180_182.out; have hnb141 := NB182_186.out; have hnc141 := NB186_182.out; have hcz142_0 : w130.cell? ⟨gb182, 0, none⟩ = some (.slice none 0 0) := bc BK182 0; have hfz142_0 := blk_frozen BK182.out 0))
      refine bodyPost_ret (results_ct rfl _ _ gb182 30 #[.slice none 0 0] (0, 0) _ rfl (by (with_reducible repeat first | apply aN | apply aD | apply aA); refine blk_put (cs := #[.slice none 0 0]) ?_ 0 _ rfl; (with_reducible repeat first | apply aN | apply aD | apply aA); refine blk_far ?_ NB182_188.out _; exact bk BK182) Try.underlying30 rfl (by kernel_rfl)) rfl ?_
      exact ⟨_, by first | rfl | (simp [errW_none, errW_some] <;> rfl) | (simp [*, errW_none, errW_some] <;> rfl), by first | exact Kd.R_nil _ _ _ _ _ | exact Kd.N_nil _ _ _ _ _ | exact Kd.V_nil _ _ _ _ _ | exact Kd.Q_nil _ _ _ _ _ | exact Kd.S_nil _ _ _ _ _, hS⟩
     rw [if_neg c129] at H
     have c129b0 : decide (t185 < 0) = false := decide_eq_false c129
     clear c129
     by_cases c143 : a1_0 = 2
     ·rw [if_pos c143] at H
      have c143b0 : (a1_0 == 2) = true := beq_iff_eq.mpr c143
      have c143b1 : (a1_0 != 2) = false := bne_eq_false_iff_eq.mpr c143
      clear c143
      replace H := bm H
      obtain ⟨t193, A1440, H⟩ := H
      replace H : ((spec_DiskOk.f kj59 t193).bind fun t196 => (if t196 = true then (some (t193, true)) else (some (([] : List (S67)), false)))) = some (r1, r2) := H
      have A144 := AM A1440
      clear A1440
      replace H := bm H
      obtain ⟨t196, A1450, H⟩ := H
      replace H : (if t196 = true then (some (t193, true)) else (some (([] : List (S67)), false))) = some (r1, r2) := H
      have A145 := AM A1450
      clear A1450
      by_cases c146 : t196 = true
      ·subst c146
       have H1 : (some (t193, true)) = some (r1, r2) := by rw [if_pos rfl] at H; exact H
       clear H
       have H := H1
       clear H1
       simp only [Option.some.injEq, Prod.mk.injEq] at H
       obtain ⟨rfl, rfl⟩ := H
       go_wp2_with (first | ((with_reducible refine gate_dst (N := 8) rfl ?_); refine bx (N := 8) (cs := #[.slice none 0 0]) (t := 30) ?_; intro gb188 hg w147 hbox hb; have n0_ := AM (blk_below (bk BK180) hb); have n1_ := AM (blk_below (bk BK181) hb); have n2_ := AM (blk_below (bk BK182) hb); have n3_ := AM (blk_below (bk BK186) hb); have n4_ := AM (below_step (hS) hb); have n5_ := AM (hbox); have n6_ := AM (bt hg hS); have n7_ := AM (bt hg hS); have n8_ := AM (nl hg (bk BK180)); have n9_ := AM (ng hg (bk BK180)); have n10_ := AM (nl hg (bk BK181)); have n11_ := AM (ng hg (bk BK181)); have n12_ := AM (nl hg (bk BK182)); have n13_ := AM (ng hg (bk BK182)); have n14_ := AM (nl hg (bk BK186)); have n15_ := AM (ng hg (bk BK186)); clear BK180; clear BK181; clear BK182; clear BK186; clear HB; have BK180 := n0_; have BK181 := n1_; have BK182 := n2_; have BK186 := n3_; have HB := n4_; have BK188 := n5_; have GW188 := n6_; have GE188 := n7_; have NB180_188 := n8_; have NB188_180 := n9_; have NB181_188 := n10_; have NB188_181 := n11_; have NB182_188 := n12_; have NB188_182 := n13_; have NB186_188 := n14_; have NB188_186 := n15_; clear n0_ n1_ n2_ n3_ n4_ n5_ n6_ n7_ n8_ n9_ n10_ n11_ n12_ n13_ n14_ n15_; clear hb hbox hg; have hnb148 := NB188_180.out; have hnc148 := NB180_188.out; have hnb149 := NB188_181.out; have hnc149 := NB181_188.out; have hnb150 := NB188_182.out; have hnc150 := NB182_188.out; have hnb151 := NB188_186.out; have hnc151 := NB186_188.out; have hcz152_0 : w147.cell? ⟨gb188, 0, none⟩ = some (.slice none 0 0) := bc BK188 0; have hfz152_0 := blk_frozen BK188.out 0; have hnb153 := NB181_180.out; have hnc153 := NB180_181.out; have hnb154 := NB181_182.out; have hnc154 := NB182_181.out; have hnb155 := NB181_186.out; have hnc155 := NB186_181.out; have hcz156_0 : w147.cell? ⟨gb181, 0, none⟩ = some (.int .i64 a1_0) := bc BK181 0; have hcz156_1 : w147.cell? ⟨gb181, 1, none⟩ = some (.string a1_1) := bc BK181 1; have hcz156_2 : w147.cell? ⟨gb181, 2, none⟩ = some (.string a1_2) := bc BK181 2; have hcz156_3 : w147.cell? ⟨gb181, 3, none⟩ = some (.string a1_3) := bc BK181 3; have hfz156_0 := blk_frozen BK181.out 0; have hfz156_1 := blk_frozen BK181.out 1; have hfz156_2 := blk_frozen BK181.out 2; have hfz156_3 := blk_frozen BK181.out 3; have hnb157 := NB186_180.out; have hnc157 := NB180_186.out; have hnb158 := NB186_182.out; have hnc158 := NB182_186.out; have hcz159_0 : w147.cell? ⟨gb186, 0, none⟩ = some (.string x187000_59) := bc BK186 0; have hcz159_1 : w147.cell? ⟨gb186, 1, none⟩ = some (.string x187001_59) := bc BK186 1; have hcz159_2 : w147.cell? ⟨gb186, 2, none⟩ = some (.int .i64 x187002_59) := bc BK186 2; have hfz159_0 := blk_frozen BK186.out 0; have hfz159_1 := blk_frozen BK186.out 1; have hfz159_2 := blk_frozen BK186.out 2; have hnb160 := NB180_182.out; have hnc160 := NB182_180.out; have hcz161_0 : w147.cell? ⟨gb180, 0, none⟩ = some (.slice A0_0 l0_0.length c0_0) := bc BK180 0; have hfz161_0 := blk_frozen BK180.out 0) | ((with_reducible refine gate_callee (f := 46) rfl ?_); refine goesL_ (some 82) rfl rfl Try.func46 (by kernel_rfl) rfl #[.agg #[.slice A0_0 l0_0.length c0_0], .agg #[.string x187000_59, .string x187001_59, .int .i64 (x187001_59.size : Int)]] rfl am ?_; (with_reducible refine (spec_l03Put.calls kj59 _ _ l0_0 x187000_59 x187001_59 (x187001_59.size : Int) t193 _ ?side1 ?side2 A144.out).mono ?_); (case side1 => exact Kd.C_below HR0_0.out (hS)); (case side2 => exact HC0_0.out); rintro e w162 ⟨v194, rfl, ho0, hb⟩; refine ⟨_, rfl, ?_⟩; have n0_ := AM (Kd.R_lower (Kd.R_newB ho0 (g := gb186) (o := .cells #[.string x187000_59, .string x187001_59, .int .i64 (x187001_59.size : Int)] 67 (0, 0)) (by (with_reducible repeat first | apply aN | apply aD | apply aA); refine blk_put (cs := #[.string x187000_59, .string x187001_59, .int .i64 x187002_59]) ?_ 2 _ rfl; (with_reducible repeat first | apply aN | apply aD | apply aA); refine blk_far ?_ NB186_188.out _; exact bk BK186)) (below_size (hS))); have n1_ := AM (blk_below (g := gb180) (o := .cells #[.slice A0_0 l0_0.length c0_0] 30 (0, 0)) (be) hb); have n2_ := AM (blk_below (g := gb181) (o := .cells #[.int .i64 a1_0, .string a1_1, .string a1_2, .string a1_3] 41 (0, 0)) (be) hb); have n3_ := AM (blk_below (g := gb182) (o := .cells #[.slice none 0 0] 30 (0, 0)) (be) hb); have n4_ := AM (blk_below (g := gb186) (o := .cells #[.string x187000_59, .string x187001_59, .int .i64 (x187001_59.size : Int)] 67 (0, 0)) (by (with_reducible repeat first | apply aN | apply aD | apply aA); refine blk_put (cs := #[.string x187000_59, .string x187001_59, .int .i64 x187002_59]) ?_ 2 _ rfl; (with_reducible repeat first | apply aN | apply aD | apply aA); refine blk_far ?_ NB186_188.out _; exact bk BK186) hb); have n5_ := AM (blk_below (g := gb188) (o := .cells #[.slice none 0 0] 30 (0, 0)) (by (with_reducible repeat first | apply aN | apply aD | apply aA); refine blk_far ?_ NB188_186.out _; (with_reducible repeat first | apply aN | apply aD | apply aA); refine blk_put (cs := #[.slice none 0 0]) ?_ 0 _ rfl; exact bk BK188) hb); have n6_ := AM (below_step (hS) hb); clear BK180; clear BK181; clear BK182; clear BK186; clear BK188; clear HB; have HO195 := n0_; have BK180 := n1_; have BK181 := n2_; have BK182 := n3_; have BK186 := n4_; have BK188 := n5_; have HB := n6_; clear n0_ n1_ n2_ n3_ n4_ n5_ n6_; (try clear hb); (try clear ho0); obtain ⟨Ao163, co163, eo163⟩ := Kd.R_slice HO195.out; subst eo163; have hcz164_0 : w162.cell? ⟨gb188, 0, none⟩ = some (.slice none 0 0) := bc BK188 0; have hfz164_0 := blk_frozen BK188.out 0) | ((with_reducible refine gate_callee (f := 41) rfl ?_); refine goesL_ (some 125) rfl rfl Try.func41 (by kernel_rfl) rfl #[.agg #[.slice Ao163 t193.length co163]] rfl am ?_; (with_reducible refine (spec_DiskOk.calls kj59 _ _ t193 true _ ?side1 ?side2 A145.out).mono ?_); (case side1 => refine (Kd.R_reads' (e := 67) (base := w.heap.size) (ok := fun k_ => (True ∧ k_ ≠ gb186)) (n := t193.length) (c := co163) ?_).2.2; exact (by exact (Kd.R_mono (Kd.R_far (p := ⟨gb188, 0, none⟩) (Kd.R_types HO195.out BK188.out (by decide)) (fun _ hk => hk.2) (.slice Ao163 t193.length co163)) (fun _ h_ => h_.1)))); (case side2 => exact (Kd.R_reads' HO195.out).2.1); rintro e w165 ⟨rfl, hb⟩; refine ⟨_, rfl, ?_⟩; have n0_ := AM (Kd.R_below (by exact (Kd.R_mono (Kd.R_far (p := ⟨gb188, 0, none⟩) (Kd.R_types HO195.out BK188.out (by decide)) (fun _ hk => hk.2) (.slice Ao163 t193.length co163)) (fun _ h_ => h_.1))) hb); have n1_ := AM (blk_below (g := gb180) (o := .cells #[.slice A0_0 l0_0.length c0_0] 30 (0, 0)) (be) hb); have n2_ := AM (blk_below (g := gb181) (o := .cells #[.int .i64 a1_0, .string a1_1, .string a1_2, .string a1_3] 41 (0, 0)) (be) hb); have n3_ := AM (blk_below (g := gb182) (o := .cells #[.slice none 0 0] 30 (0, 0)) (be) hb); have n4_ := AM (blk_below (g := gb186) (o := .cells #[.string x187000_59, .string x187001_59, .int .i64 (x187001_59.size : Int)] 67 (0, 0)) (be) hb); have n5_ := AM (blk_below (g := gb188) (o := .cells #[.slice Ao163 t193.length co163] 30 (0, 0)) (by (with_reducible repeat first | apply aN | apply aD | apply aA); refine blk_put (cs := #[.slice none 0 0]) ?_ 0 _ rfl; exact bk BK188) hb); have n6_ := AM (below_step (hS) hb); clear HO195; clear BK180; clear BK181; clear BK182; clear BK186; clear BK188; clear HB; have HO195 := n0_; have BK180 := n1_; have BK181 := n2_; have BK182 := n3_; have BK186 := n4_; have BK188 := n5_; have HB := n6_; clear n0_ n1_ n2_ n3_ n4_ n5_ n6_; (try clear hb); (try clear hk); have hcz166_0 : w165.cell? ⟨gb188, 0, none⟩ = some (.slice Ao163 t193.length co163) := bc BK188 0; have hfz166_0 := blk_frozen BK188.out 0; have hcz167_0 : w165.cell? ⟨gb182, 0, none⟩ = some (.slice none 0 0) := bc BK182 0; have hfz167_0 := blk_frozen BK182.out 0))
       refine bodyPost_ret (results_ct rfl _ _ gb182 30 #[.slice Ao163 t193.length co163] (0, 0) _ rfl (by (with_reducible repeat first | apply aN | apply aD | apply aA); refine blk_put (cs := #[.slice none 0 0]) ?_ 0 _ rfl; exact bk BK182) Try.underlying30 rfl (by kernel_rfl)) rfl ?_
       exact ⟨_, by first | rfl | (simp [errW_none, errW_some] <;> rfl) | (simp [*, errW_none, errW_some] <;> rfl), by exact Kd.R_mono (Kd.R_far (p := ⟨gb182, 0, none⟩) (Kd.R_types HO195.out BK182.out (by decide)) (fun _ hk => hk.2) (.slice Ao163 t193.length co163)) (fun _ hk => trivial), hS⟩
      replace c146 := Bool.eq_false_iff.mpr c146
      subst c146
      have H1 : (some (([] : List (S67)), false)) = some (r1, r2) := by rw [if_neg (show ¬ (false = true) by decide)] at H; exact H
      clear H
      have H := H1
      clear H1
      simp only [Option.some.injEq, Prod.mk.injEq] at H
      obtain ⟨rfl, rfl⟩ := H
      go_wp2_with (first | ((with_reducible refine gate_dst (N := 8) rfl ?_); refine bx (N := 8) (cs := #[.slice none 0 0]) (t := 30) ?_; intro gb188 hg w168 hbox hb; have n0_ := AM (blk_below (bk BK180) hb); have n1_ := AM (blk_below (bk BK181) hb); have n2_ := AM (blk_below (bk BK182) hb); have n3_ := AM (blk_below (bk BK186) hb); have n4_ := AM (below_step (hS) hb); have n5_ := AM (hbox); have n6_ := AM (bt hg hS); have n7_ := AM (bt hg hS); have n8_ := AM (nl hg (bk BK180)); have n9_ := AM (ng hg (bk BK180)); have n10_ := AM (nl hg (bk BK181)); have n11_ := AM (ng hg (bk BK181)); have n12_ := AM (nl hg (bk BK182)); have n13_ := AM (ng hg (bk BK182)); have n14_ := AM (nl hg (bk BK186)); have n15_ := AM (ng hg (bk BK186)); clear BK180; clear BK181; clear BK182; clear BK186; clear HB; have BK180 := n0_; have BK181 := n1_; have BK182 := n2_; have BK186 := n3_; have HB := n4_; have BK188 := n5_; have GW188 := n6_; have GE188 := n7_; have NB180_188 := n8_; have NB188_180 := n9_; have NB181_188 := n10_; have NB188_181 := n11_; have NB182_188 := n12_; have NB188_182 := n13_; have NB186_188 := n14_; have NB188_186 := n15_; clear n0_ n1_ n2_ n3_ n4_ n5_ n6_ n7_ n8_ n9_ n10_ n11_ n12_ n13_ n14_ n15_; clear hb hbox hg; have hnb169 := NB188_180.out; have hnc169 := NB180_188.out; have hnb170 := NB188_181.out; have hnc170 := NB181_188.out; have hnb171 := NB188_182.out; have hnc171 := NB182_188.out; have hnb172 := NB188_186.out; have hnc172 := NB186_188.out; have hcz173_0 : w168.cell? ⟨gb188, 0, none⟩ = some (.slice none 0 0) := bc BK188 0; have hfz173_0 := blk_frozen BK188.out 0; have hnb174 := NB181_180.out; have hnc174 := NB180_181.out; have hnb175 := NB181_182.out; have hnc175 := NB182_181.out; have hnb176 := NB181_186.out; have hnc176 := NB186_181.out; have hcz177_0 : w168.cell? ⟨gb181, 0, none⟩ = some (.int .i64 a1_0) := bc BK181 0; have hcz177_1 : w168.cell? ⟨gb181, 1, none⟩ = some (.string a1_1) := bc BK181 1; have hcz177_2 : w168.cell? ⟨gb181, 2, none⟩ = some (.string a1_2) := bc BK181 2; have hcz177_3 : w168.cell? ⟨gb181, 3, none⟩ = some (.string a1_3) := bc BK181 3; have hfz177_0 := blk_frozen BK181.out 0; have hfz177_1 := blk_frozen BK181.out 1; have hfz177_2 := blk_frozen BK181.out 2; have hfz177_3 := blk_frozen BK181.out 3; have hnb178 := NB186_180.out; have hnc178 := NB180_186.out; have hnb179 := NB186_182.out; have hnc179 := NB182_186.out; have hcz180_0 : w168.cell? ⟨gb186, 0, none⟩ = some (.string x187000_59) := bc BK186 0; have hcz180_1 : w168.cell? ⟨gb186, 1, none⟩ = some (.string x187001_59) := bc BK186 1; have hcz180_2 : w168.cell? ⟨gb186, 2, none⟩ = some (.int .i64 x187002_59) := bc BK186 2; have hfz180_0 := blk_frozen BK186.out 0; have hfz180_1 := blk_frozen BK186.out 1; have hfz180_2 := blk_frozen BK186.out 2; have hnb181 := NB180_182.out; have hnc181 := NB182_180.out; have hcz182_0 : w168.cell? ⟨gb180, 0, none⟩ = some (.slice A0_0 l0_0.length c0_0) := bc BK180 0; have hfz182_0 := blk_frozen BK180.out 0) | ((with_reducible refine gate_callee (f := 46) rfl ?_); refine goesL_ (some 82) rfl rfl Try.func46 (by kernel_rfl) rfl #[.agg #[.slice A0_0 l0_0.length c0_0], .agg #[.string x187000_59, .string x187001_59, .int .i64 (x187001_59.size : Int)]] rfl am ?_; (with_reducible refine (spec_l03Put.calls kj59 _ _ l0_0 x187000_59 x187001_59 (x187001_59.size : Int) t193 _ ?side1 ?side2 A144.out).mono ?_); (case side1 => exact Kd.C_below HR0_0.out (hS)); (case side2 => exact HC0_0.out); rintro e w183 ⟨v194, rfl, ho0, hb⟩; refine ⟨_, rfl, ?_⟩; have n0_ := AM (Kd.R_lower (Kd.R_newB ho0 (g := gb186) (o := .cells #[.string x187000_59, .string x187001_59, .int .i64 (x187001_59.size : Int)] 67 (0, 0)) (by (with_reducible repeat first | apply aN | apply aD | apply aA); refine blk_put (cs := #[.string x187000_59, .string x187001_59, .int .i64 x187002_59]) ?_ 2 _ rfl; (with_reducible repeat first | apply aN | apply aD | apply aA); refine blk_far ?_ NB186_188.out _; exact bk BK186)) (below_size (hS))); have n1_ := AM (blk_below (g := gb180) (o := .cells #[.slice A0_0 l0_0.length c0_0] 30 (0, 0)) (be) hb); have n2_ := AM (blk_below (g := gb181) (o := .cells #[.int .i64 a1_0, .string a1_1, .string a1_2, .string a1_3] 41 (0, 0)) (be) hb); have n3_ := AM (blk_below (g := gb182) (o := .cells #[.slice none 0 0] 30 (0, 0)) (be) hb); have n4_ := AM (blk_below (g := gb186) (o := .cells #[.string x187000_59, .string x187001_59, .int .i64 (x187001_59.size : Int)] 67 (0, 0)) (by (with_reducible repeat first | apply aN | apply aD | apply aA); refine blk_put (cs := #[.string x187000_59, .string x187001_59, .int .i64 x187002_59]) ?_ 2 _ rfl; (with_reducible repeat first | apply aN | apply aD | apply aA); refine blk_far ?_ NB186_188.out _; exact bk BK186) hb); have n5_ := AM (blk_below (g := gb188) (o := .cells #[.slice none 0 0] 30 (0, 0)) (by (with_reducible repeat first | apply aN | apply aD | apply aA); refine blk_far ?_ NB188_186.out _; (with_reducible repeat first | apply aN | apply aD | apply aA); refine blk_put (cs := #[.slice none 0 0]) ?_ 0 _ rfl; exact bk BK188) hb); have n6_ := AM (below_step (hS) hb); clear BK180; clear BK181; clear BK182; clear BK186; clear BK188; clear HB; have HO195 := n0_; have BK180 := n1_; have BK181 := n2_; have BK182 := n3_; have BK186 := n4_; have BK188 := n5_; have HB := n6_; clear n0_ n1_ n2_ n3_ n4_ n5_ n6_; (try clear hb); (try clear ho0); obtain ⟨Ao184, co184, eo184⟩ := Kd.R_slice HO195.out; subst eo184; have hcz185_0 : w183.cell? ⟨gb188, 0, none⟩ = some (.slice none 0 0) := bc BK188 0; have hfz185_0 := blk_frozen BK188.out 0) | ((with_reducible refine gate_callee (f := 41) rfl ?_); refine goesL_ (some 125) rfl rfl Try.func41 (by kernel_rfl) rfl #[.agg #[.slice Ao184 t193.length co184]] rfl am ?_; (with_reducible refine (spec_DiskOk.calls kj59 _ _ t193 false _ ?side1 ?side2 A145.out).mono ?_); (case side1 => refine (Kd.R_reads' (e := 67) (base := w.heap.size) (ok := fun k_ => (True ∧ k_ ≠ gb186)) (n := t193.length) (c := co184) ?_).2.2; exact (by exact (Kd.R_mono (Kd.R_far (p := ⟨gb188, 0, none⟩) (Kd.R_types HO195.out BK188.out (by decide)) (fun _ hk => hk.2) (.slice Ao184 t193.length co184)) (fun _ h_ => h_.1)))); (case side2 => exact (Kd.R_reads' HO195.out).2.1); rintro e w186 ⟨rfl, hb⟩; refine ⟨_, rfl, ?_⟩; have n0_ := AM (Kd.R_below (by exact (Kd.R_mono (Kd.R_far (p := ⟨gb188, 0, none⟩) (Kd.R_types HO195.out BK188.out (by decide)) (fun _ hk => hk.2) (.slice Ao184 t193.length co184)) (fun _ h_ => h_.1))) hb); have n1_ := AM (blk_below (g := gb180) (o := .cells #[.slice A0_0 l0_0.length c0_0] 30 (0, 0)) (be) hb); have n2_ := AM (blk_below (g := gb181) (o := .cells #[.int .i64 a1_0, .string a1_1, .string a1_2, .string a1_3] 41 (0, 0)) (be) hb); have n3_ := AM (blk_below (g := gb182) (o := .cells #[.slice none 0 0] 30 (0, 0)) (be) hb); have n4_ := AM (blk_below (g := gb186) (o := .cells #[.string x187000_59, .string x187001_59, .int .i64 (x187001_59.size : Int)] 67 (0, 0)) (be) hb); have n5_ := AM (blk_below (g := gb188) (o := .cells #[.slice Ao184 t193.length co184] 30 (0, 0)) (by (with_reducible repeat first | apply aN | apply aD | apply aA); refine blk_put (cs := #[.slice none 0 0]) ?_ 0 _ rfl; exact bk BK188) hb); have n6_ := AM (below_step (hS) hb); clear HO195; clear BK180; clear BK181; clear BK182; clear BK186; clear BK188; clear HB; have HO195 := n0_; have BK180 := n1_; have BK181 := n2_; have BK182 := n3_; have BK186 := n4_; have BK188 := n5_; have HB := n6_; clear n0_ n1_ n2_ n3_ n4_ n5_ n6_; (try clear hb); (try clear hk); have hcz187_0 : w186.cell? ⟨gb182, 0, none⟩ = some (.slice none 0 0) := bc BK182 0; have hfz187_0 := blk_frozen BK182.out 0))
      refine bodyPost_ret (results_ct rfl _ _ gb182 30 #[.slice none 0 0] (0, 0) _ rfl (by (with_reducible repeat first | apply aN | apply aD | apply aA); refine blk_put (cs := #[.slice none 0 0]) ?_ 0 _ rfl; exact bk BK182) Try.underlying30 rfl (by kernel_rfl)) rfl ?_
      exact ⟨_, by first | rfl | (simp [errW_none, errW_some] <;> rfl) | (simp [*, errW_none, errW_some] <;> rfl), by first | exact Kd.R_nil _ _ _ _ _ | exact Kd.N_nil _ _ _ _ _ | exact Kd.V_nil _ _ _ _ _ | exact Kd.Q_nil _ _ _ _ _ | exact Kd.S_nil _ _ _ _ _, hS⟩
     rw [if_neg c143] at H
     have c143b0 : (a1_0 == 2) = false := beq_eq_false_iff_ne.mpr c143
     have c143b1 : (a1_0 != 2) = true := bne_iff_ne.mpr c143
     by_cases c188 : a1_0 = 3
     ·rw [if_pos c188] at H
      have c188b0 : (a1_0 == 3) = true := beq_iff_eq.mpr c188
      have c188b1 : (a1_0 != 3) = false := bne_eq_false_iff_eq.mpr c188
      clear c188
      have HC189 := AM H
      clear H
      go_upto_region 18 with (first | ((with_reducible refine gate_dst (N := 8) rfl ?_); refine bx (N := 8) (cs := #[.slice none 0 0]) (t := 30) ?_; intro gb188 hg w190 hbox hb; have n0_ := AM (blk_below (bk BK180) hb); have n1_ := AM (blk_below (bk BK181) hb); have n2_ := AM (blk_below (bk BK182) hb); have n3_ := AM (blk_below (bk BK186) hb); have n4_ := AM (below_step (hS) hb); have n5_ := AM (hbox); have n6_ := AM (bt hg hS); have n7_ := AM (bt hg hS); have n8_ := AM (nl hg (bk BK180)); have n9_ := AM (ng hg (bk BK180)); have n10_ := AM (nl hg (bk BK181)); have n11_ := AM (ng hg (bk BK181)); have n12_ := AM (nl hg (bk BK182)); have n13_ := AM (ng hg (bk BK182)); have n14_ := AM (nl hg (bk BK186)); have n15_ := AM (ng hg (bk BK186)); clear BK180; clear BK181; clear BK182; clear BK186; clear HB; have BK180 := n0_; have BK181 := n1_; have BK182 := n2_; have BK186 := n3_; have HB := n4_; have BK188 := n5_; have GW188 := n6_; have GE188 := n7_; have NB180_188 := n8_; have NB188_180 := n9_; have NB181_188 := n10_; have NB188_181 := n11_; have NB182_188 := n12_; have NB188_182 := n13_; have NB186_188 := n14_; have NB188_186 := n15_; clear n0_ n1_ n2_ n3_ n4_ n5_ n6_ n7_ n8_ n9_ n10_ n11_ n12_ n13_ n14_ n15_; clear hb hbox hg; have hnb191 := NB188_180.out; have hnc191 := NB180_188.out; have hnb192 := NB188_181.out; have hnc192 := NB181_188.out; have hnb193 := NB188_182.out; have hnc193 := NB182_188.out; have hnb194 := NB188_186.out; have hnc194 := NB186_188.out; have hcz195_0 : w190.cell? ⟨gb188, 0, none⟩ = some (.slice none 0 0) := bc BK188 0; have hfz195_0 := blk_frozen BK188.out 0; have hnb196 := NB181_180.out; have hnc196 := NB180_181.out; have hnb197 := NB181_182.out; have hnc197 := NB182_181.out; have hnb198 := NB181_186.out; have hnc198 := NB186_181.out; have hcz199_0 : w190.cell? ⟨gb181, 0, none⟩ = some (.int .i64 a1_0) := bc BK181 0; have hcz199_1 : w190.cell? ⟨gb181, 1, none⟩ = some (.string a1_1) := bc BK181 1; have hcz199_2 : w190.cell? ⟨gb181, 2, none⟩ = some (.string a1_2) := bc BK181 2; have hcz199_3 : w190.cell? ⟨gb181, 3, none⟩ = some (.string a1_3) := bc BK181 3; have hfz199_0 := blk_frozen BK181.out 0; have hfz199_1 := blk_frozen BK181.out 1; have hfz199_2 := blk_frozen BK181.out 2; have hfz199_3 := blk_frozen BK181.out 3))
      (try simp only [Act.put, qT, q0, qS])
      go_cut [105] (fun v105 wc => ∃ (kq : Nat) (x105_188 : Bool), v105 = .bool x105_188 ∧ Aside0 (spec_DoAct.j2 kq x105_188 l0_0 a1_0 a1_1 a1_2 a1_3 x187000_59 x187001_59 x187002_59 = some (r1, r2)) ∧ Aside0 (kq ≤ kj59) ∧ Aside0 (wc.heap[gb180]? = some (.cells #[(.slice A0_0 l0_0.length c0_0)] 30 (0, 0))) ∧ Aside0 (wc.heap[gb181]? = some (.cells #[.int .i64 a1_0, .string a1_1, .string a1_2, .string a1_3] 41 (0, 0))) ∧ Aside0 (wc.heap[gb182]? = some (.cells #[(.slice none 0 0)] 30 (0, 0))) ∧ Aside0 (wc.heap[gb186]? = some (.cells #[.string x187000_59, .string x187001_59, .int .i64 x187002_59] 67 (0, 0))) ∧ Aside0 (wc.heap[gb188]? = some (.cells #[(.slice none 0 0)] 30 (0, 0))) ∧ Aside0 (Below w.heap.size w wc))
      case first =>
       have H := HC189.out
       clear HC189
       by_cases c200 : x187002_59 < (x187001_59.size : Int)
       ·rw [if_pos c200] at H
        have c200b0 : decide (x187002_59 < (x187001_59.size : Int)) = true := decide_eq_true c200
        clear c200
        (first | rw [c200b0] | (simp only [i64_w, i32_w]; rw [c200b0]) | rw [c200b1] | skip)
        have H' := AM H
        clear H
        have hnb201 := NB186_180.out
        have hnc201 := NB180_186.out
        have hnb202 := NB186_181.out
        have hnc202 := NB181_186.out
        have hnb203 := NB186_182.out
        have hnc203 := NB182_186.out
        have hnb204 := NB186_188.out
        have hnc204 := NB188_186.out
        have hcz205_0 : w190.cell? ⟨gb186, 0, none⟩ = some (.string x187000_59) := bc BK186 0
        have hcz205_1 : w190.cell? ⟨gb186, 1, none⟩ = some (.string x187001_59) := bc BK186 1
        have hcz205_2 : w190.cell? ⟨gb186, 2, none⟩ = some (.int .i64 x187002_59) := bc BK186 2
        have hfz205_0 := blk_frozen BK186.out 0
        have hfz205_1 := blk_frozen BK186.out 1
        have hfz205_2 := blk_frozen BK186.out 2
        go_wp2
        go_meet
        case rel => exact ⟨_, (true), (by first | rfl | (simp; done) | (simp [*]; done) | (generalize ByteArray.toList a1_2 = q_; cases q_ <;> first | rfl | (simp; done))), H', ⟨by have := HJ2.out; have := HJ59.out; first | omega | exact Nat.le_refl _⟩, ⟨be⟩, ⟨be⟩, ⟨be⟩, ⟨be⟩, ⟨by (with_reducible repeat first | apply aN | apply aD | apply aA); refine blk_put (cs := #[.slice none 0 0]) ?_ 0 _ rfl; exact bk BK188⟩, ⟨hS⟩⟩
       rw [if_neg c200] at H
       have c200b0 : decide (x187002_59 < (x187001_59.size : Int)) = false := decide_eq_false c200
       clear c200
       (first | rw [c200b0] | (simp only [i64_w, i32_w]; rw [c200b0]) | rw [c200b1] | skip)
       by_cases c206 : a1_3.toList = a1_1.toList
       ·rw [if_pos c206] at H
        have c206b0 : (a1_3.toList == a1_1.toList) = true := beq_iff_eq.mpr c206
        have c206b1 : (a1_3.toList != a1_1.toList) = false := bne_eq_false_iff_eq.mpr c206
        clear c206
        have H' := AM H
        clear H
        have hnb207 := NB186_180.out
        have hnc207 := NB180_186.out
        have hnb208 := NB186_181.out
        have hnc208 := NB181_186.out
        have hnb209 := NB186_182.out
        have hnc209 := NB182_186.out
        have hnb210 := NB186_188.out
        have hnc210 := NB188_186.out
        have hcz211_0 : w190.cell? ⟨gb186, 0, none⟩ = some (.string x187000_59) := bc BK186 0
        have hcz211_1 : w190.cell? ⟨gb186, 1, none⟩ = some (.string x187001_59) := bc BK186 1
        have hcz211_2 : w190.cell? ⟨gb186, 2, none⟩ = some (.int .i64 x187002_59) := bc BK186 2
        have hfz211_0 := blk_frozen BK186.out 0
        have hfz211_1 := blk_frozen BK186.out 1
        have hfz211_2 := blk_frozen BK186.out 2
        have hnb212 := NB181_180.out
        have hnc212 := NB180_181.out
        have hnb213 := NB181_182.out
        have hnc213 := NB182_181.out
        have hnb214 := NB181_188.out
        have hnc214 := NB188_181.out
        have hcz215_0 : w190.cell? ⟨gb181, 0, none⟩ = some (.int .i64 a1_0) := bc BK181 0
        have hcz215_1 : w190.cell? ⟨gb181, 1, none⟩ = some (.string a1_1) := bc BK181 1
        have hcz215_2 : w190.cell? ⟨gb181, 2, none⟩ = some (.string a1_2) := bc BK181 2
        have hcz215_3 : w190.cell? ⟨gb181, 3, none⟩ = some (.string a1_3) := bc BK181 3
        have hfz215_0 := blk_frozen BK181.out 0
        have hfz215_1 := blk_frozen BK181.out 1
        have hfz215_2 := blk_frozen BK181.out 2
        have hfz215_3 := blk_frozen BK181.out 3
        go_wp2
        go_meet
        case rel => exact ⟨_, (true), (by first | rfl | (simp; done) | (simp [*]; done) | (generalize ByteArray.toList a1_2 = q_; cases q_ <;> first | rfl | (simp; done))), H', ⟨by have := HJ2.out; have := HJ59.out; first | omega | exact Nat.le_refl _⟩, ⟨be⟩, ⟨be⟩, ⟨be⟩, ⟨be⟩, ⟨by (with_reducible repeat first | apply aN | apply aD | apply aA); refine blk_put (cs := #[.slice none 0 0]) ?_ 0 _ rfl; exact bk BK188⟩, ⟨hS⟩⟩
       rw [if_neg c206] at H
       have c206b0 : (a1_3.toList == a1_1.toList) = false := beq_eq_false_iff_ne.mpr c206
       have c206b1 : (a1_3.toList != a1_1.toList) = true := bne_iff_ne.mpr c206
       replace H := bm H
       obtain ⟨t197, A2160, H⟩ := H
       replace H : (spec_DoAct.j2 kj59 (!t197) l0_0 a1_0 a1_1 a1_2 a1_3 x187000_59 x187001_59 x187002_59) = some (r1, r2) := H
       have A216 := AM A2160
       clear A2160
       have H' := AM H
       clear H
       have hnb217 := NB186_180.out
       have hnc217 := NB180_186.out
       have hnb218 := NB186_181.out
       have hnc218 := NB181_186.out
       have hnb219 := NB186_182.out
       have hnc219 := NB182_186.out
       have hnb220 := NB186_188.out
       have hnc220 := NB188_186.out
       have hcz221_0 : w190.cell? ⟨gb186, 0, none⟩ = some (.string x187000_59) := bc BK186 0
       have hcz221_1 : w190.cell? ⟨gb186, 1, none⟩ = some (.string x187001_59) := bc BK186 1
       have hcz221_2 : w190.cell? ⟨gb186, 2, none⟩ = some (.int .i64 x187002_59) := bc BK186 2
       have hfz221_0 := blk_frozen BK186.out 0
       have hfz221_1 := blk_frozen BK186.out 1
       have hfz221_2 := blk_frozen BK186.out 2
       have hnb222 := NB181_180.out
       have hnc222 := NB180_181.out
       have hnb223 := NB181_182.out
       have hnc223 := NB182_181.out
       have hnb224 := NB181_188.out
       have hnc224 := NB188_181.out
       have hcz225_0 : w190.cell? ⟨gb181, 0, none⟩ = some (.int .i64 a1_0) := bc BK181 0
       have hcz225_1 : w190.cell? ⟨gb181, 1, none⟩ = some (.string a1_1) := bc BK181 1
       have hcz225_2 : w190.cell? ⟨gb181, 2, none⟩ = some (.string a1_2) := bc BK181 2
       have hcz225_3 : w190.cell? ⟨gb181, 3, none⟩ = some (.string a1_3) := bc BK181 3
       have hfz225_0 := blk_frozen BK181.out 0
       have hfz225_1 := blk_frozen BK181.out 1
       have hfz225_2 := blk_frozen BK181.out 2
       have hfz225_3 := blk_frozen BK181.out 3
       go_wp2_with (first | (go_at_call 45; (with_reducible refine (spec_l03Name.calls a1_3 t197 _ A216.out).mono ?_); rintro e w' ⟨rfl, ⟨nd, rfl⟩⟩))
       go_meet
       case rel => exact ⟨_, (!t197), (by first | rfl | (simp; done) | (simp [*]; done) | (generalize ByteArray.toList a1_2 = q_; cases q_ <;> first | rfl | (simp; done))), H', ⟨by have := HJ2.out; have := HJ59.out; first | omega | exact Nat.le_refl _⟩, ⟨be⟩, ⟨be⟩, ⟨be⟩, ⟨be⟩, ⟨by (with_reducible repeat first | apply aN | apply aD | apply aA); refine blk_put (cs := #[.slice none 0 0]) ?_ 0 _ rfl; exact bk BK188⟩, ⟨hS⟩⟩
      case rest =>
       clear HC189
       obtain ⟨kq, x105_188, rfl, HA, HJ188, BK180, BK181, BK182, BK186, BK188, HB⟩ := hcut
       cases kq with
       | zero => exact absurd HA.out (by simp [spec_DoAct.j2])
       | succ kj188 =>
        have H := HA.out
        clear HA
        simp only [spec_DoAct.j2] at H
        by_cases c226 : x105_188 = true
        ·subst c226
         have H1 : (some (([] : List (S67)), false)) = some (r1, r2) := by rw [if_pos rfl] at H; exact H
         clear H
         have H := H1
         clear H1
         simp only [Option.some.injEq, Prod.mk.injEq] at H
         obtain ⟨rfl, rfl⟩ := H
         have hnb227 := NB182_180.out
         have hnc227 := NB180_182.out
         have hnb228 := NB182_181.out
         have hnc228 := NB181_182.out
         have hnb229 := NB182_186.out
         have hnc229 := NB186_182.out
         have hnb230 := NB182_188.out
         have hnc230 := NB188_182.out
         have hcz231_0 : wc.cell? ⟨gb182, 0, none⟩ = some (.slice none 0 0) := bc BK182 0
         have hfz231_0 := blk_frozen BK182.out 0
         go_wp2
         refine bodyPost_ret (results_ct rfl _ _ gb182 30 #[.slice none 0 0] (0, 0) _ rfl (by (with_reducible repeat first | apply aN | apply aD | apply aA); refine blk_put (cs := #[.slice none 0 0]) ?_ 0 _ rfl; exact bk BK182) Try.underlying30 rfl (by kernel_rfl)) rfl ?_
         exact ⟨_, by first | rfl | (simp [errW_none, errW_some] <;> rfl) | (simp [*, errW_none, errW_some] <;> rfl), by first | exact Kd.R_nil _ _ _ _ _ | exact Kd.N_nil _ _ _ _ _ | exact Kd.V_nil _ _ _ _ _ | exact Kd.Q_nil _ _ _ _ _ | exact Kd.S_nil _ _ _ _ _, hS⟩
        replace c226 := Bool.eq_false_iff.mpr c226
        subst c226
        have H1 : ((spec_l03Without.f kj188 l0_0 a1_1).bind fun t198 => ((spec_l03Put.f kj188 t198 a1_3 x187001_59 x187002_59).bind fun t201 => ((spec_DiskOk.f kj188 t201).bind fun t204 => (if t204 = true then (some (t201, true)) else (some (([] : List (S67)), false)))))) = some (r1, r2) := by rw [if_neg (show ¬ (false = true) by decide)] at H; exact H
        clear H
        have H := H1
        clear H1
        replace H := bm H
        obtain ⟨t198, A2320, H⟩ := H
        replace H : ((spec_l03Put.f kj188 t198 a1_3 x187001_59 x187002_59).bind fun t201 => ((spec_DiskOk.f kj188 t201).bind fun t204 => (if t204 = true then (some (t201, true)) else (some (([] : List (S67)), false))))) = some (r1, r2) := H
        have A232 := AM A2320
        clear A2320
        replace H := bm H
        obtain ⟨t201, A2330, H⟩ := H
        replace H : ((spec_DiskOk.f kj188 t201).bind fun t204 => (if t204 = true then (some (t201, true)) else (some (([] : List (S67)), false)))) = some (r1, r2) := H
        have A233 := AM A2330
        clear A2330
        replace H := bm H
        obtain ⟨t204, A2340, H⟩ := H
        replace H : (if t204 = true then (some (t201, true)) else (some (([] : List (S67)), false))) = some (r1, r2) := H
        have A234 := AM A2340
        clear A2340
        by_cases c235 : t204 = true
        ·subst c235
         have H1 : (some (t201, true)) = some (r1, r2) := by rw [if_pos rfl] at H; exact H
         clear H
         have H := H1
         clear H1
         simp only [Option.some.injEq, Prod.mk.injEq] at H
         obtain ⟨rfl, rfl⟩ := H
         have hnb236 := NB181_180.out
         have hnc236 := NB180_181.out
         have hnb237 := NB181_182.out
         have hnc237 := NB182_181.out
         have hnb238 := NB181_186.out
         have hnc238 := NB186_181.out
         have hnb239 := NB181_188.out
         have hnc239 := NB188_181.out
         have hcz240_0 : wc.cell? ⟨gb181, 0, none⟩ = some (.int .i64 a1_0) := bc BK181 0
         have hcz240_1 : wc.cell? ⟨gb181, 1, none⟩ = some (.string a1_1) := bc BK181 1
         have hcz240_2 : wc.cell? ⟨gb181, 2, none⟩ = some (.string a1_2) := bc BK181 2
         have hcz240_3 : wc.cell? ⟨gb181, 3, none⟩ = some (.string a1_3) := bc BK181 3
         have hfz240_0 := blk_frozen BK181.out 0
         have hfz240_1 := blk_frozen BK181.out 1
         have hfz240_2 := blk_frozen BK181.out 2
         have hfz240_3 := blk_frozen BK181.out 3
         have hnb241 := NB186_180.out
         have hnc241 := NB180_186.out
         have hnb242 := NB186_182.out
         have hnc242 := NB182_186.out
         have hnb243 := NB186_188.out
         have hnc243 := NB188_186.out
         have hcz244_0 : wc.cell? ⟨gb186, 0, none⟩ = some (.string x187000_59) := bc BK186 0
         have hcz244_1 : wc.cell? ⟨gb186, 1, none⟩ = some (.string x187001_59) := bc BK186 1
         have hcz244_2 : wc.cell? ⟨gb186, 2, none⟩ = some (.int .i64 x187002_59) := bc BK186 2
         have hfz244_0 := blk_frozen BK186.out 0
         have hfz244_1 := blk_frozen BK186.out 1
         have hfz244_2 := blk_frozen BK186.out 2
         try go_wp2
         have n0_ : Aside0 ((wc.setCell ⟨gb186, 0, none⟩ (.string a1_3)).heap[gb180]? = some (.cells #[.slice A0_0 l0_0.length c0_0] 30 (0, 0))) := ⟨be⟩
         have n1_ : Aside0 ((wc.setCell ⟨gb186, 0, none⟩ (.string a1_3)).heap[gb181]? = some (.cells #[.int .i64 a1_0, .string a1_1, .string a1_2, .string a1_3] 41 (0, 0))) := ⟨be⟩
         have n2_ : Aside0 ((wc.setCell ⟨gb186, 0, none⟩ (.string a1_3)).heap[gb182]? = some (.cells #[.slice none 0 0] 30 (0, 0))) := ⟨be⟩
         have n3_ : Aside0 ((wc.setCell ⟨gb186, 0, none⟩ (.string a1_3)).heap[gb186]? = some (.cells #[.string a1_3, .string x187001_59, .int .i64 x187002_59] 67 (0, 0))) := ⟨by (with_reducible repeat first | apply aN | apply aD | apply aA); refine blk_put (cs := #[.string x187000_59, .string x187001_59, .int .i64 x187002_59]) ?_ 0 _ rfl; exact bk BK186⟩
         have n4_ : Aside0 ((wc.setCell ⟨gb186, 0, none⟩ (.string a1_3)).heap[gb188]? = some (.cells #[.slice none 0 0] 30 (0, 0))) := ⟨be⟩
         have n5_ : Aside0 (Below w.heap.size w (wc.setCell ⟨gb186, 0, none⟩ (.string a1_3))) := ⟨hS⟩
         (try clear BK180)
         (try clear BK181)
         (try clear BK182)
         (try clear BK186)
         (try clear BK188)
         (try clear HB)
         generalize (wc.setCell ⟨gb186, 0, none⟩ (.string a1_3)) = w245 at n0_ n1_ n2_ n3_ n4_ n5_ ⊢
         have BK180 := n0_
         have BK181 := n1_
         have BK182 := n2_
         have BK186 := n3_
         have BK188 := n4_
         have HB := n5_
         clear n0_ n1_ n2_ n3_ n4_ n5_
         have n0_ := AM (blk_drew BK180.out)
         have n1_ := AM (blk_drew BK181.out)
         have n2_ := AM (blk_drew BK182.out)
         have n3_ := AM (blk_drew BK186.out)
         have n4_ := AM (blk_drew BK188.out)
         have n5_ := AM (below_drew1 HB.out)
         clear BK180
         clear BK181
         clear BK182
         clear BK186
         clear BK188
         clear HB
         have BK180 := n0_
         have BK181 := n1_
         have BK182 := n2_
         have BK186 := n3_
         have BK188 := n4_
         have HB := n5_
         clear n0_ n1_ n2_ n3_ n4_ n5_
         refine start_ (n := 7) (S := fun w' => w'.cell? ⟨gb180, 0, none⟩ = some (.slice A0_0 l0_0.length c0_0) ∧ w'.cell? ⟨gb181, 0, none⟩ = some (.int .i64 a1_0) ∧ w'.cell? ⟨gb181, 1, none⟩ = some (.string a1_1) ∧ w'.cell? ⟨gb181, 2, none⟩ = some (.string a1_2) ∧ w'.cell? ⟨gb181, 3, none⟩ = some (.string a1_3) ∧ w'.cell? ⟨gb186, 0, none⟩ = some (.string a1_3) ∧ w'.cell? ⟨gb186, 1, none⟩ = some (.string x187001_59) ∧ w'.cell? ⟨gb186, 2, none⟩ = some (.int .i64 x187002_59)) (ds := []) #[false, false, false, false, false, false, false] (by kernel_rfl) rfl rfl ⟨bc BK180 0, bc BK181 0, bc BK181 1, bc BK181 2, bc BK181 3, bc BK186 0, bc BK186 1, bc BK186 2⟩ (fun hHeld => ?_)
         generalize w245.drew = w246 at BK180 BK181 BK182 BK186 BK188 HB hHeld ⊢
         refine pure_ (i := 1) (N := some 111) (v := ?_) (a' := ?_) #[false, true, false, false, false, false, false] rfl rfl (by kernel_rfl) (fun _ _ _ h => h) (Or.inl ⟨by rfl, ?_⟩) ?_ ?_
         rotate_left
         ·intro w'
          go_simp
          with_reducible rfl
         rotate_left
         ·simp only [Act.put, qT, q0, qS, i64_w, i32_w]
          rfl
         refine take_ (i := 0) (N := some 110) (v := ?_) (a' := ?_) #[true, true, false, false, false, false, false] rfl rfl (by kernel_rfl) (fun _ _ _ h => h) (Or.inl ⟨by rfl, ?_⟩) hHeld ?_ ?_
         rotate_left
         ·rintro w' ⟨s0, s1, s2, s3, s4, s5, s6, s7⟩
          go_simp
          with_reducible rfl
         rotate_left
         ·simp only [Act.put, qT, q0, qS, i64_w, i32_w]
          rfl
         refine take_ (i := 2) (N := some 112) (v := ?_) (a' := ?_) #[true, true, true, false, false, false, false] rfl rfl (by kernel_rfl) (fun _ _ _ h => h) (Or.inl ⟨by rfl, ?_⟩) hHeld ?_ ?_
         rotate_left
         ·rintro w' ⟨s0, s1, s2, s3, s4, s5, s6, s7⟩
          go_simp
          with_reducible rfl
         rotate_left
         ·simp only [Act.put, qT, q0, qS, i64_w, i32_w]
          rfl
         refine take_ (i := 4) (N := some 114) (v := ?_) (a' := ?_) #[true, true, true, false, true, false, false] rfl rfl (by kernel_rfl) (fun _ _ _ h => h) (Or.inl ⟨by rfl, ?_⟩) hHeld ?_ ?_
         rotate_left
         ·rintro w' ⟨s0, s1, s2, s3, s4, s5, s6, s7⟩
          go_simp
          with_reducible rfl
         rotate_left
         ·simp only [Act.put, qT, q0, qS, i64_w, i32_w]
          rfl
         refine one_ (i := 3) (N := some 113) #[true, true, true, true, true, false, false] rfl rfl (by kernel_rfl) (by decide) (fun K hK => ?_)
         refine goes_ Try.func47 (by kernel_rfl) rfl #[.agg #[.slice A0_0 l0_0.length c0_0], .string a1_1] (by rfl) rfl rfl am ?_
         with_reducible refine (spec_l03Without.calls kj188 _ _ l0_0 a1_1 t198 _ ?side1 ?side2 A232.out).mono ?_
         (case side1 => repeat (first | exact (Kd.C_below HR0_0.out HB.out) | (with_reducible refine Kd.C_alloc ?_ _) | (with_reducible refine Kd.C_drewN ?_ _) | (with_reducible refine Kd.C_drew ?_)))
         (case side2 => exact HC0_0.out)
         rintro e w247 ⟨v199, rfl, ho0, hb⟩
         refine ⟨_, rfl, ?_⟩
         have n0_ := AM (Kd.R_lower (Kd.R_newB ho0 (g := gb186) (o := .cells #[.string a1_3, .string x187001_59, .int .i64 x187002_59] 67 (0, 0)) (bk BK186)) (below_size (hS)))
         have n1_ := AM (blk_below (bk BK180) hb)
         have n2_ := AM (blk_below (bk BK181) hb)
         have n3_ := AM (blk_below (bk BK182) hb)
         have n4_ := AM (blk_below (bk BK186) hb)
         have n5_ := AM (blk_below (bk BK188) hb)
         have n6_ := AM (below_step (hS) hb)
         clear BK180
         clear BK181
         clear BK182
         clear BK186
         clear BK188
         clear HB
         have HO200 := n0_
         have BK180 := n1_
         have BK181 := n2_
         have BK182 := n3_
         have BK186 := n4_
         have BK188 := n5_
         have HB := n6_
         clear n0_ n1_ n2_ n3_ n4_ n5_ n6_
         (try clear hb)
         (try clear hb2)
         (try clear hk)
         (try clear hi)
         (try clear ho0)
         obtain ⟨Ao248, co248, eo248⟩ := Kd.R_slice HO200.out
         (first | subst eo248 | (injection eo248 with f1_ f2_ f3_; have f4_ := f1_.symm; have f5_ := f3_.symm; clear f1_ f2_ f3_; subst f4_; subst f5_))
         refine hK.out _ _ ⟨bc BK180 0, bc BK181 0, bc BK181 1, bc BK181 2, bc BK181 3, bc BK186 0, bc BK186 1, bc BK186 2⟩ (fun hHeld => ?_)
         clear hK K
         refine norm_ (a' := ?_) ?_ ?_
         rotate_left
         ·show Act.put _ (some 113) _ = _
          simp only [Act.put, qT, q0, qS, i64_w, i32_w]
          rfl
         refine one_ (i := 5) (N := some 115) #[true, true, true, true, true, true, false] rfl rfl (by kernel_rfl) (by decide) (fun K hK => ?_)
         refine goes_ Try.func46 (by kernel_rfl) rfl #[.agg #[.slice Ao248 t198.length co248], .agg #[.string a1_3, .string x187001_59, .int .i64 x187002_59]] (by rfl) rfl rfl am ?_
         with_reducible refine (spec_l03Put.calls kj188 _ _ t198 a1_3 x187001_59 x187002_59 t201 _ ?side1 ?side2 A233.out).mono ?_
         (case side1 => repeat (first | exact (Kd.R_reads' HO200.out).2.2 | (with_reducible refine Kd.C_alloc ?_ _) | (with_reducible refine Kd.C_drewN ?_ _) | (with_reducible refine Kd.C_drew ?_)))
         (case side2 => exact (Kd.R_reads' HO200.out).2.1)
         rintro e w249 ⟨v202, rfl, ho0, hb⟩
         refine ⟨_, rfl, ?_⟩
         have n0_ := AM (Kd.R_elder' (by exact HO200.out) (Kd.R_base ho0) hb)
         have n1_ := AM (Kd.R_lower (Kd.R_newB (Kd.R_new' ho0 (Kd.R_lt (by exact HO200.out))) (g := gb186) (o := .cells #[.string a1_3, .string x187001_59, .int .i64 x187002_59] 67 (0, 0)) (bk BK186)) (below_size (hS)))
         have n2_ := AM (blk_below (bk BK180) hb)
         have n3_ := AM (blk_below (bk BK181) hb)
         have n4_ := AM (blk_below (bk BK182) hb)
         have n5_ := AM (blk_below (bk BK186) hb)
         have n6_ := AM (blk_below (bk BK188) hb)
         have n7_ := AM (below_step (hS) hb)
         clear HO200
         clear BK180
         clear BK181
         clear BK182
         clear BK186
         clear BK188
         clear HB
         have HO200 := n0_
         have HO203 := n1_
         have BK180 := n2_
         have BK181 := n3_
         have BK182 := n4_
         have BK186 := n5_
         have BK188 := n6_
         have HB := n7_
         clear n0_ n1_ n2_ n3_ n4_ n5_ n6_ n7_
         (try clear hb)
         (try clear hb2)
         (try clear hk)
         (try clear hi)
         (try clear ho0)
         obtain ⟨Ao250, co250, eo250⟩ := Kd.R_slice HO203.out
         (first | subst eo250 | (injection eo250 with f1_ f2_ f3_; have f4_ := f1_.symm; have f5_ := f3_.symm; clear f1_ f2_ f3_; subst f4_; subst f5_))
         refine hK.out _ _ ⟨bc BK180 0, bc BK181 0, bc BK181 1, bc BK181 2, bc BK181 3, bc BK186 0, bc BK186 1, bc BK186 2⟩ (fun hHeld => ?_)
         clear hK K
         refine norm_ (a' := ?_) ?_ ?_
         rotate_left
         ·show Act.put _ (some 115) _ = _
          simp only [Act.put, qT, q0, qS, i64_w, i32_w]
          rfl
         refine one_ (i := 6) (N := none) #[true, true, true, true, true, true, true] rfl rfl (by kernel_rfl) (by decide) (fun K hK => ?_)
         have hs251 : w249.cell? ⟨gb188, 0, none⟩ = some (.slice none 0 0) := bc BK188 0
         have hfs251 := blk_frozen BK188.out 0
         have hns251_0 := NB180_188.out
         have hns251_1 := NB181_188.out
         have hns251_2 := NB182_188.out
         have hns251_3 := NB186_188.out
         have hms251_0 := NB188_180.out
         have hms251_1 := NB188_181.out
         have hms251_2 := NB188_182.out
         have hms251_3 := NB188_186.out
         refine skip_ (w1 := ?_) (by rfl) rfl ?_ ?_
         rotate_left
         ·go_simp
          rfl
         refine hK.out _ _ ⟨((cell_far (p := ⟨gb188, _, none⟩) NB180_188.out _).trans (hHeld.1)), ((cell_far (p := ⟨gb188, _, none⟩) NB181_188.out _).trans (hHeld.2.1)), ((cell_far (p := ⟨gb188, _, none⟩) NB181_188.out _).trans (hHeld.2.2.1)), ((cell_far (p := ⟨gb188, _, none⟩) NB181_188.out _).trans (hHeld.2.2.2.1)), ((cell_far (p := ⟨gb188, _, none⟩) NB181_188.out _).trans (hHeld.2.2.2.2.1)), ((cell_far (p := ⟨gb188, _, none⟩) NB186_188.out _).trans (hHeld.2.2.2.2.2.1)), ((cell_far (p := ⟨gb188, _, none⟩) NB186_188.out _).trans (hHeld.2.2.2.2.2.2.1)), ((cell_far (p := ⟨gb188, _, none⟩) NB186_188.out _).trans (hHeld.2.2.2.2.2.2.2))⟩ (fun hHeld => ?_)
         clear hK K
         refine done_ (by kernel_rfl) ?_
         have hnb252 := NB188_180.out
         have hnc252 := NB180_188.out
         have hnb253 := NB188_182.out
         have hnc253 := NB182_188.out
         have hcz254_0 : w249.cell? ⟨gb188, 0, none⟩ = some (.slice none 0 0) := bc BK188 0
         have hfz254_0 := blk_frozen BK188.out 0
         try go_wp2_with (first | ((with_reducible refine gate_callee (f := 41) rfl ?_); refine goesL_ (some 125) rfl rfl Try.func41 (by kernel_rfl) rfl #[.agg #[.slice Ao250 t201.length co250]] rfl am ?_; (with_reducible refine (spec_DiskOk.calls kj188 _ _ t201 true _ ?side1 ?side2 A234.out).mono ?_); (case side1 => refine (Kd.R_reads' (e := 67) (base := w.heap.size) (ok := fun k_ => ((True ∧ some k_ ≠ (.slice Ao248 t198.length co248 : Value).ownBlock) ∧ k_ ≠ gb186)) (n := t201.length) (c := co250) ?_).2.2; exact (by exact (Kd.R_mono (Kd.R_far (p := ⟨gb188, 0, none⟩) (Kd.R_types HO203.out BK188.out (by decide)) (fun _ hk => hk.2) (.slice Ao250 t201.length co250)) (fun _ h_ => h_.1)))); (case side2 => exact (Kd.R_reads' HO203.out).2.1); rintro e w255 ⟨rfl, hb⟩; refine ⟨_, rfl, ?_⟩; have n0_ := AM (Kd.R_below (by exact (Kd.R_mono (Kd.R_far (p := ⟨gb188, 0, none⟩) (Kd.R_types HO200.out BK188.out (by decide)) (fun _ hk => hk.2) (.slice Ao250 t201.length co250)) (fun _ h_ => h_.1))) hb); have n1_ := AM (Kd.R_below (by exact (Kd.R_mono (Kd.R_far (p := ⟨gb188, 0, none⟩) (Kd.R_types HO203.out BK188.out (by decide)) (fun _ hk => hk.2) (.slice Ao250 t201.length co250)) (fun _ h_ => h_.1))) hb); have n2_ := AM (blk_below (g := gb180) (o := .cells #[.slice A0_0 l0_0.length c0_0] 30 (0, 0)) (be) hb); have n3_ := AM (blk_below (g := gb181) (o := .cells #[.int .i64 a1_0, .string a1_1, .string a1_2, .string a1_3] 41 (0, 0)) (be) hb); have n4_ := AM (blk_below (g := gb182) (o := .cells #[.slice none 0 0] 30 (0, 0)) (be) hb); have n5_ := AM (blk_below (g := gb186) (o := .cells #[.string a1_3, .string x187001_59, .int .i64 x187002_59] 67 (0, 0)) (be) hb); have n6_ := AM (blk_below (g := gb188) (o := .cells #[.slice Ao250 t201.length co250] 30 (0, 0)) (by (with_reducible repeat first | apply aN | apply aD | apply aA); refine blk_put (cs := #[.slice none 0 0]) ?_ 0 _ rfl; exact bk BK188) hb); have n7_ := AM (below_step (hS) hb); clear HO200; clear HO203; clear BK180; clear BK181; clear BK182; clear BK186; clear BK188; clear HB; have HO200 := n0_; have HO203 := n1_; have BK180 := n2_; have BK181 := n3_; have BK182 := n4_; have BK186 := n5_; have BK188 := n6_; have HB := n7_; clear n0_ n1_ n2_ n3_ n4_ n5_ n6_ n7_; (try clear hb); (try clear hb2); (try clear hk); (try clear hi); have hcz256_0 : w255.cell? ⟨gb188, 0, none⟩ = some (.slice Ao250 t201.length co250) := bc BK188 0; have hfz256_0 := blk_frozen BK188.out 0; have hnb257 := NB182_180.out; have hnc257 := NB180_182.out; have hcz258_0 : w255.cell? ⟨gb182, 0, none⟩ = some (.slice none 0 0) := bc BK182 0; have hfz258_0 := blk_frozen BK182.out 0))
         refine bodyPost_ret (results_ct rfl _ _ gb182 30 #[.slice Ao250 t201.length co250] (0, 0) _ rfl (by (with_reducible repeat first | apply aN | apply aD | apply aA); refine blk_put (cs := #[.slice none 0 0]) ?_ 0 _ rfl; exact bk BK182) Try.underlying30 rfl (by kernel_rfl)) rfl ?_
         exact ⟨_, by first | rfl | (simp [errW_none, errW_some] <;> rfl) | (simp [*, errW_none, errW_some] <;> rfl), by exact Kd.R_mono (Kd.R_far (p := ⟨gb182, 0, none⟩) (Kd.R_types HO203.out BK182.out (by decide)) (fun _ hk => hk.2) (.slice Ao250 t201.length co250)) (fun _ hk => trivial), hS⟩
        replace c235 := Bool.eq_false_iff.mpr c235
        subst c235
        have H1 : (some (([] : List (S67)), false)) = some (r1, r2) := by rw [if_neg (show ¬ (false = true) by decide)] at H; exact H
        clear H
        have H := H1
        clear H1
        simp only [Option.some.injEq, Prod.mk.injEq] at H
        obtain ⟨rfl, rfl⟩ := H
        have hnb259 := NB181_180.out
        have hnc259 := NB180_181.out
        have hnb260 := NB181_182.out
        have hnc260 := NB182_181.out
        have hnb261 := NB181_186.out
        have hnc261 := NB186_181.out
        have hnb262 := NB181_188.out
        have hnc262 := NB188_181.out
        have hcz263_0 : wc.cell? ⟨gb181, 0, none⟩ = some (.int .i64 a1_0) := bc BK181 0
        have hcz263_1 : wc.cell? ⟨gb181, 1, none⟩ = some (.string a1_1) := bc BK181 1
        have hcz263_2 : wc.cell? ⟨gb181, 2, none⟩ = some (.string a1_2) := bc BK181 2
        have hcz263_3 : wc.cell? ⟨gb181, 3, none⟩ = some (.string a1_3) := bc BK181 3
        have hfz263_0 := blk_frozen BK181.out 0
        have hfz263_1 := blk_frozen BK181.out 1
        have hfz263_2 := blk_frozen BK181.out 2
        have hfz263_3 := blk_frozen BK181.out 3
        have hnb264 := NB186_180.out
        have hnc264 := NB180_186.out
        have hnb265 := NB186_182.out
        have hnc265 := NB182_186.out
        have hnb266 := NB186_188.out
        have hnc266 := NB188_186.out
        have hcz267_0 : wc.cell? ⟨gb186, 0, none⟩ = some (.string x187000_59) := bc BK186 0
        have hcz267_1 : wc.cell? ⟨gb186, 1, none⟩ = some (.string x187001_59) := bc BK186 1
        have hcz267_2 : wc.cell? ⟨gb186, 2, none⟩ = some (.int .i64 x187002_59) := bc BK186 2
        have hfz267_0 := blk_frozen BK186.out 0
        have hfz267_1 := blk_frozen BK186.out 1
        have hfz267_2 := blk_frozen BK186.out 2
        try go_wp2
        have n0_ : Aside0 ((wc.setCell ⟨gb186, 0, none⟩ (.string a1_3)).heap[gb180]? = some (.cells #[.slice A0_0 l0_0.length c0_0] 30 (0, 0))) := ⟨be⟩
        have n1_ : Aside0 ((wc.setCell ⟨gb186, 0, none⟩ (.string a1_3)).heap[gb181]? = some (.cells #[.int .i64 a1_0, .string a1_1, .string a1_2, .string a1_3] 41 (0, 0))) := ⟨be⟩
        have n2_ : Aside0 ((wc.setCell ⟨gb186, 0, none⟩ (.string a1_3)).heap[gb182]? = some (.cells #[.slice none 0 0] 30 (0, 0))) := ⟨be⟩
        have n3_ : Aside0 ((wc.setCell ⟨gb186, 0, none⟩ (.string a1_3)).heap[gb186]? = some (.cells #[.string a1_3, .string x187001_59, .int .i64 x187002_59] 67 (0, 0))) := ⟨by (with_reducible repeat first | apply aN | apply aD | apply aA); refine blk_put (cs := #[.string x187000_59, .string x187001_59, .int .i64 x187002_59]) ?_ 0 _ rfl; exact bk BK186⟩
        have n4_ : Aside0 ((wc.setCell ⟨gb186, 0, none⟩ (.string a1_3)).heap[gb188]? = some (.cells #[.slice none 0 0] 30 (0, 0))) := ⟨be⟩
        have n5_ : Aside0 (Below w.heap.size w (wc.setCell ⟨gb186, 0, none⟩ (.string a1_3))) := ⟨hS⟩
        (try clear BK180)
        (try clear BK181)
        (try clear BK182)
        (try clear BK186)
        (try clear BK188)
        (try clear HB)
        generalize (wc.setCell ⟨gb186, 0, none⟩ (.string a1_3)) = w268 at n0_ n1_ n2_ n3_ n4_ n5_ ⊢
        have BK180 := n0_
        have BK181 := n1_
        have BK182 := n2_
        have BK186 := n3_
        have BK188 := n4_
        have HB := n5_
        clear n0_ n1_ n2_ n3_ n4_ n5_
        have n0_ := AM (blk_drew BK180.out)
        have n1_ := AM (blk_drew BK181.out)
        have n2_ := AM (blk_drew BK182.out)
        have n3_ := AM (blk_drew BK186.out)
        have n4_ := AM (blk_drew BK188.out)
        have n5_ := AM (below_drew1 HB.out)
        clear BK180
        clear BK181
        clear BK182
        clear BK186
        clear BK188
        clear HB
        have BK180 := n0_
        have BK181 := n1_
        have BK182 := n2_
        have BK186 := n3_
        have BK188 := n4_
        have HB := n5_
        clear n0_ n1_ n2_ n3_ n4_ n5_
        refine start_ (n := 7) (S := fun w' => w'.cell? ⟨gb180, 0, none⟩ = some (.slice A0_0 l0_0.length c0_0) ∧ w'.cell? ⟨gb181, 0, none⟩ = some (.int .i64 a1_0) ∧ w'.cell? ⟨gb181, 1, none⟩ = some (.string a1_1) ∧ w'.cell? ⟨gb181, 2, none⟩ = some (.string a1_2) ∧ w'.cell? ⟨gb181, 3, none⟩ = some (.string a1_3) ∧ w'.cell? ⟨gb186, 0, none⟩ = some (.string a1_3) ∧ w'.cell? ⟨gb186, 1, none⟩ = some (.string x187001_59) ∧ w'.cell? ⟨gb186, 2, none⟩ = some (.int .i64 x187002_59)) (ds := []) #[false, false, false, false, false, false, false] (by kernel_rfl) rfl rfl ⟨bc BK180 0, bc BK181 0, bc BK181 1, bc BK181 2, bc BK181 3, bc BK186 0, bc BK186 1, bc BK186 2⟩ (fun hHeld => ?_)
        generalize w268.drew = w269 at BK180 BK181 BK182 BK186 BK188 HB hHeld ⊢
        refine pure_ (i := 1) (N := some 111) (v := ?_) (a' := ?_) #[false, true, false, false, false, false, false] rfl rfl (by kernel_rfl) (fun _ _ _ h => h) (Or.inl ⟨by rfl, ?_⟩) ?_ ?_
        rotate_left
        ·intro w'
         go_simp
         with_reducible rfl
        rotate_left
        ·simp only [Act.put, qT, q0, qS, i64_w, i32_w]
         rfl
        refine take_ (i := 0) (N := some 110) (v := ?_) (a' := ?_) #[true, true, false, false, false, false, false] rfl rfl (by kernel_rfl) (fun _ _ _ h => h) (Or.inl ⟨by rfl, ?_⟩) hHeld ?_ ?_
        rotate_left
        ·rintro w' ⟨s0, s1, s2, s3, s4, s5, s6, s7⟩
         go_simp
         with_reducible rfl
        rotate_left
        ·simp only [Act.put, qT, q0, qS, i64_w, i32_w]
         rfl
        refine take_ (i := 2) (N := some 112) (v := ?_) (a' := ?_) #[true, true, true, false, false, false, false] rfl rfl (by kernel_rfl) (fun _ _ _ h => h) (Or.inl ⟨by rfl, ?_⟩) hHeld ?_ ?_
        rotate_left
        ·rintro w' ⟨s0, s1, s2, s3, s4, s5, s6, s7⟩
         go_simp
         with_reducible rfl
        rotate_left
        ·simp only [Act.put, qT, q0, qS, i64_w, i32_w]
         rfl
        refine take_ (i := 4) (N := some 114) (v := ?_) (a' := ?_) #[true, true, true, false, true, false, false] rfl rfl (by kernel_rfl) (fun _ _ _ h => h) (Or.inl ⟨by rfl, ?_⟩) hHeld ?_ ?_
        rotate_left
        ·rintro w' ⟨s0, s1, s2, s3, s4, s5, s6, s7⟩
         go_simp
         with_reducible rfl
        rotate_left
        ·simp only [Act.put, qT, q0, qS, i64_w, i32_w]
         rfl
        refine one_ (i := 3) (N := some 113) #[true, true, true, true, true, false, false] rfl rfl (by kernel_rfl) (by decide) (fun K hK => ?_)
        refine goes_ Try.func47 (by kernel_rfl) rfl #[.agg #[.slice A0_0 l0_0.length c0_0], .string a1_1] (by rfl) rfl rfl am ?_
        with_reducible refine (spec_l03Without.calls kj188 _ _ l0_0 a1_1 t198 _ ?side1 ?side2 A232.out).mono ?_
        (case side1 => repeat (first | exact (Kd.C_below HR0_0.out HB.out) | (with_reducible refine Kd.C_alloc ?_ _) | (with_reducible refine Kd.C_drewN ?_ _) | (with_reducible refine Kd.C_drew ?_)))
        (case side2 => exact HC0_0.out)
        rintro e w270 ⟨v199, rfl, ho0, hb⟩
        refine ⟨_, rfl, ?_⟩
        have n0_ := AM (Kd.R_lower (Kd.R_newB ho0 (g := gb186) (o := .cells #[.string a1_3, .string x187001_59, .int .i64 x187002_59] 67 (0, 0)) (bk BK186)) (below_size (hS)))
        have n1_ := AM (blk_below (bk BK180) hb)
        have n2_ := AM (blk_below (bk BK181) hb)
        have n3_ := AM (blk_below (bk BK182) hb)
        have n4_ := AM (blk_below (bk BK186) hb)
        have n5_ := AM (blk_below (bk BK188) hb)
        have n6_ := AM (below_step (hS) hb)
        clear BK180
        clear BK181
        clear BK182
        clear BK186
        clear BK188
        clear HB
        have HO200 := n0_
        have BK180 := n1_
        have BK181 := n2_
        have BK182 := n3_
        have BK186 := n4_
        have BK188 := n5_
        have HB := n6_
        clear n0_ n1_ n2_ n3_ n4_ n5_ n6_
        (try clear hb)
        (try clear hb2)
        (try clear hk)
        (try clear hi)
        (try clear ho0)
        obtain ⟨Ao271, co271, eo271⟩ := Kd.R_slice HO200.out
        (first | subst eo271 | (injection eo271 with f1_ f2_ f3_; have f4_ := f1_.symm; have f5_ := f3_.symm; clear f1_ f2_ f3_; subst f4_; subst f5_))
        refine hK.out _ _ ⟨bc BK180 0, bc BK181 0, bc BK181 1, bc BK181 2, bc BK181 3, bc BK186 0, bc BK186 1, bc BK186 2⟩ (fun hHeld => ?_)
        clear hK K
        refine norm_ (a' := ?_) ?_ ?_
        rotate_left
        ·show Act.put _ (some 113) _ = _
         simp only [Act.put, qT, q0, qS, i64_w, i32_w]
         rfl
        refine one_ (i := 5) (N := some 115) #[true, true, true, true, true, true, false] rfl rfl (by kernel_rfl) (by decide) (fun K hK => ?_)
        refine goes_ Try.func46 (by kernel_rfl) rfl #[.agg #[.slice Ao271 t198.length co271], .agg #[.string a1_3, .string x187001_59, .int .i64 x187002_59]] (by rfl) rfl rfl am ?_
        with_reducible refine (spec_l03Put.calls kj188 _ _ t198 a1_3 x187001_59 x187002_59 t201 _ ?side1 ?side2 A233.out).mono ?_
        (case side1 => repeat (first | exact (Kd.R_reads' HO200.out).2.2 | (with_reducible refine Kd.C_alloc ?_ _) | (with_reducible refine Kd.C_drewN ?_ _) | (with_reducible refine Kd.C_drew ?_)))
        (case side2 => exact (Kd.R_reads' HO200.out).2.1)
        rintro e w272 ⟨v202, rfl, ho0, hb⟩
        refine ⟨_, rfl, ?_⟩
        have n0_ := AM (Kd.R_elder' (by exact HO200.out) (Kd.R_base ho0) hb)
        have n1_ := AM (Kd.R_lower (Kd.R_newB (Kd.R_new' ho0 (Kd.R_lt (by exact HO200.out))) (g := gb186) (o := .cells #[.string a1_3, .string x187001_59, .int .i64 x187002_59] 67 (0, 0)) (bk BK186)) (below_size (hS)))
        have n2_ := AM (blk_below (bk BK180) hb)
        have n3_ := AM (blk_below (bk BK181) hb)
        have n4_ := AM (blk_below (bk BK182) hb)
        have n5_ := AM (blk_below (bk BK186) hb)
        have n6_ := AM (blk_below (bk BK188) hb)
        have n7_ := AM (below_step (hS) hb)
        clear HO200
        clear BK180
        clear BK181
        clear BK182
        clear BK186
        clear BK188
        clear HB
        have HO200 := n0_
        have HO203 := n1_
        have BK180 := n2_
        have BK181 := n3_
        have BK182 := n4_
        have BK186 := n5_
        have BK188 := n6_
        have HB := n7_
        clear n0_ n1_ n2_ n3_ n4_ n5_ n6_ n7_
        (try clear hb)
        (try clear hb2)
        (try clear hk)
        (try clear hi)
        (try clear ho0)
        obtain ⟨Ao273, co273, eo273⟩ := Kd.R_slice HO203.out
        (first | subst eo273 | (injection eo273 with f1_ f2_ f3_; have f4_ := f1_.symm; have f5_ := f3_.symm; clear f1_ f2_ f3_; subst f4_; subst f5_))
        refine hK.out _ _ ⟨bc BK180 0, bc BK181 0, bc BK181 1, bc BK181 2, bc BK181 3, bc BK186 0, bc BK186 1, bc BK186 2⟩ (fun hHeld => ?_)
        clear hK K
        refine norm_ (a' := ?_) ?_ ?_
        rotate_left
        ·show Act.put _ (some 115) _ = _
         simp only [Act.put, qT, q0, qS, i64_w, i32_w]
         rfl
        refine one_ (i := 6) (N := none) #[true, true, true, true, true, true, true] rfl rfl (by kernel_rfl) (by decide) (fun K hK => ?_)
        have hs274 : w272.cell? ⟨gb188, 0, none⟩ = some (.slice none 0 0) := bc BK188 0
        have hfs274 := blk_frozen BK188.out 0
        have hns274_0 := NB180_188.out
        have hns274_1 := NB181_188.out
        have hns274_2 := NB182_188.out
        have hns274_3 := NB186_188.out
        have hms274_0 := NB188_180.out
        have hms274_1 := NB188_181.out
        have hms274_2 := NB188_182.out
        have hms274_3 := NB188_186.out
        refine skip_ (w1 := ?_) (by rfl) rfl ?_ ?_
        rotate_left
        ·go_simp
         rfl
        refine hK.out _ _ ⟨((cell_far (p := ⟨gb188, _, none⟩) NB180_188.out _).trans (hHeld.1)), ((cell_far (p := ⟨gb188, _, none⟩) NB181_188.out _).trans (hHeld.2.1)), ((cell_far (p := ⟨gb188, _, none⟩) NB181_188.out _).trans (hHeld.2.2.1)), ((cell_far (p := ⟨gb188, _, none⟩) NB181_188.out _).trans (hHeld.2.2.2.1)), ((cell_far (p := ⟨gb188, _, none⟩) NB181_188.out _).trans (hHeld.2.2.2.2.1)), ((cell_far (p := ⟨gb188, _, none⟩) NB186_188.out _).trans (hHeld.2.2.2.2.2.1)), ((cell_far (p := ⟨gb188, _, none⟩) NB186_188.out _).trans (hHeld.2.2.2.2.2.2.1)), ((cell_far (p := ⟨gb188, _, none⟩) NB186_188.out _).trans (hHeld.2.2.2.2.2.2.2))⟩ (fun hHeld => ?_)
        clear hK K
        refine done_ (by kernel_rfl) ?_
        have hnb275 := NB188_180.out
        have hnc275 := NB180_188.out
        have hnb276 := NB188_182.out
        have hnc276 := NB182_188.out
        have hcz277_0 : w272.cell? ⟨gb188, 0, none⟩ = some (.slice none 0 0) := bc BK188 0
        have hfz277_0 := blk_frozen BK188.out 0
        try go_wp2_with (first | ((with_reducible refine gate_callee (f := 41) rfl ?_); refine goesL_ (some 125) rfl rfl Try.func41 (by kernel_rfl) rfl #[.agg #[.slice Ao273 t201.length co273]] rfl am ?_; (with_reducible refine (spec_DiskOk.calls kj188 _ _ t201 false _ ?side1 ?side2 A234.out).mono ?_); (case side1 => refine (Kd.R_reads' (e := 67) (base := w.heap.size) (ok := fun k_ => ((True ∧ some k_ ≠ (.slice Ao271 t198.length co271 : Value).ownBlock) ∧ k_ ≠ gb186)) (n := t201.length) (c := co273) ?_).2.2; exact (by exact (Kd.R_mono (Kd.R_far (p := ⟨gb188, 0, none⟩) (Kd.R_types HO203.out BK188.out (by decide)) (fun _ hk => hk.2) (.slice Ao273 t201.length co273)) (fun _ h_ => h_.1)))); (case side2 => exact (Kd.R_reads' HO203.out).2.1); rintro e w278 ⟨rfl, hb⟩; refine ⟨_, rfl, ?_⟩; have n0_ := AM (Kd.R_below (by exact (Kd.R_mono (Kd.R_far (p := ⟨gb188, 0, none⟩) (Kd.R_types HO200.out BK188.out (by decide)) (fun _ hk => hk.2) (.slice Ao273 t201.length co273)) (fun _ h_ => h_.1))) hb); have n1_ := AM (Kd.R_below (by exact (Kd.R_mono (Kd.R_far (p := ⟨gb188, 0, none⟩) (Kd.R_types HO203.out BK188.out (by decide)) (fun _ hk => hk.2) (.slice Ao273 t201.length co273)) (fun _ h_ => h_.1))) hb); have n2_ := AM (blk_below (g := gb180) (o := .cells #[.slice A0_0 l0_0.length c0_0] 30 (0, 0)) (be) hb); have n3_ := AM (blk_below (g := gb181) (o := .cells #[.int .i64 a1_0, .string a1_1, .string a1_2, .string a1_3] 41 (0, 0)) (be) hb); have n4_ := AM (blk_below (g := gb182) (o := .cells #[.slice none 0 0] 30 (0, 0)) (be) hb); have n5_ := AM (blk_below (g := gb186) (o := .cells #[.string a1_3, .string x187001_59, .int .i64 x187002_59] 67 (0, 0)) (be) hb); have n6_ := AM (blk_below (g := gb188) (o := .cells #[.slice Ao273 t201.length co273] 30 (0, 0)) (by (with_reducible repeat first | apply aN | apply aD | apply aA); refine blk_put (cs := #[.slice none 0 0]) ?_ 0 _ rfl; exact bk BK188) hb); have n7_ := AM (below_step (hS) hb); clear HO200; clear HO203; clear BK180; clear BK181; clear BK182; clear BK186; clear BK188; clear HB; have HO200 := n0_; have HO203 := n1_; have BK180 := n2_; have BK181 := n3_; have BK182 := n4_; have BK186 := n5_; have BK188 := n6_; have HB := n7_; clear n0_ n1_ n2_ n3_ n4_ n5_ n6_ n7_; (try clear hb); (try clear hk); have hnb279 := NB182_180.out; have hnc279 := NB180_182.out; have hcz280_0 : w278.cell? ⟨gb182, 0, none⟩ = some (.slice none 0 0) := bc BK182 0; have hfz280_0 := blk_frozen BK182.out 0))
        refine bodyPost_ret (results_ct rfl _ _ gb182 30 #[.slice none 0 0] (0, 0) _ rfl (by (with_reducible repeat first | apply aN | apply aD | apply aA); refine blk_put (cs := #[.slice none 0 0]) ?_ 0 _ rfl; exact bk BK182) Try.underlying30 rfl (by kernel_rfl)) rfl ?_
        exact ⟨_, by first | rfl | (simp [errW_none, errW_some] <;> rfl) | (simp [*, errW_none, errW_some] <;> rfl), by first | exact Kd.R_nil _ _ _ _ _ | exact Kd.N_nil _ _ _ _ _ | exact Kd.V_nil _ _ _ _ _ | exact Kd.Q_nil _ _ _ _ _ | exact Kd.S_nil _ _ _ _ _, hS⟩
     rw [if_neg c188] at H
     have c188b0 : (a1_0 == 3) = false := beq_eq_false_iff_ne.mpr c188
     have c188b1 : (a1_0 != 3) = true := bne_iff_ne.mpr c188
     by_cases c281 : a1_0 = 4
     ·rw [if_pos c281] at H
      have c281b0 : (a1_0 == 4) = true := beq_iff_eq.mpr c281
      have c281b1 : (a1_0 != 4) = false := bne_eq_false_iff_eq.mpr c281
      clear c281
      replace H := bm H
      obtain ⟨t205, A2820, H⟩ := H
      replace H : ((spec_DiskOk.f kj59 t205).bind fun t208 => (if t208 = true then (some (t205, true)) else (some (([] : List (S67)), false)))) = some (r1, r2) := H
      have A282 := AM A2820
      clear A2820
      replace H := bm H
      obtain ⟨t208, A2830, H⟩ := H
      replace H : (if t208 = true then (some (t205, true)) else (some (([] : List (S67)), false))) = some (r1, r2) := H
      have A283 := AM A2830
      clear A2830
      by_cases c284 : t208 = true
      ·subst c284
       have H1 : (some (t205, true)) = some (r1, r2) := by rw [if_pos rfl] at H; exact H
       clear H
       have H := H1
       clear H1
       simp only [Option.some.injEq, Prod.mk.injEq] at H
       obtain ⟨rfl, rfl⟩ := H
       go_wp2_with (first | ((with_reducible refine gate_dst (N := 8) rfl ?_); refine bx (N := 8) (cs := #[.slice none 0 0]) (t := 30) ?_; intro gb188 hg w285 hbox hb; have n0_ := AM (blk_below (bk BK180) hb); have n1_ := AM (blk_below (bk BK181) hb); have n2_ := AM (blk_below (bk BK182) hb); have n3_ := AM (blk_below (bk BK186) hb); have n4_ := AM (below_step (hS) hb); have n5_ := AM (hbox); have n6_ := AM (bt hg hS); have n7_ := AM (bt hg hS); have n8_ := AM (nl hg (bk BK180)); have n9_ := AM (ng hg (bk BK180)); have n10_ := AM (nl hg (bk BK181)); have n11_ := AM (ng hg (bk BK181)); have n12_ := AM (nl hg (bk BK182)); have n13_ := AM (ng hg (bk BK182)); have n14_ := AM (nl hg (bk BK186)); have n15_ := AM (ng hg (bk BK186)); clear BK180; clear BK181; clear BK182; clear BK186; clear HB; have BK180 := n0_; have BK181 := n1_; have BK182 := n2_; have BK186 := n3_; have HB := n4_; have BK188 := n5_; have GW188 := n6_; have GE188 := n7_; have NB180_188 := n8_; have NB188_180 := n9_; have NB181_188 := n10_; have NB188_181 := n11_; have NB182_188 := n12_; have NB188_182 := n13_; have NB186_188 := n14_; have NB188_186 := n15_; clear n0_ n1_ n2_ n3_ n4_ n5_ n6_ n7_ n8_ n9_ n10_ n11_ n12_ n13_ n14_ n15_; clear hb hbox hg; have hnb286 := NB188_180.out; have hnc286 := NB180_188.out; have hnb287 := NB188_181.out; have hnc287 := NB181_188.out; have hnb288 := NB188_182.out; have hnc288 := NB182_188.out; have hnb289 := NB188_186.out; have hnc289 := NB186_188.out; have hcz290_0 : w285.cell? ⟨gb188, 0, none⟩ = some (.slice none 0 0) := bc BK188 0; have hfz290_0 := blk_frozen BK188.out 0; have hnb291 := NB181_180.out; have hnc291 := NB180_181.out; have hnb292 := NB181_182.out; have hnc292 := NB182_181.out; have hnb293 := NB181_186.out; have hnc293 := NB186_181.out; have hcz294_0 : w285.cell? ⟨gb181, 0, none⟩ = some (.int .i64 a1_0) := bc BK181 0; have hcz294_1 : w285.cell? ⟨gb181, 1, none⟩ = some (.string a1_1) := bc BK181 1; have hcz294_2 : w285.cell? ⟨gb181, 2, none⟩ = some (.string a1_2) := bc BK181 2; have hcz294_3 : w285.cell? ⟨gb181, 3, none⟩ = some (.string a1_3) := bc BK181 3; have hfz294_0 := blk_frozen BK181.out 0; have hfz294_1 := blk_frozen BK181.out 1; have hfz294_2 := blk_frozen BK181.out 2; have hfz294_3 := blk_frozen BK181.out 3; have hnb295 := NB180_182.out; have hnc295 := NB182_180.out; have hnb296 := NB180_186.out; have hnc296 := NB186_180.out; have hcz297_0 : w285.cell? ⟨gb180, 0, none⟩ = some (.slice A0_0 l0_0.length c0_0) := bc BK180 0; have hfz297_0 := blk_frozen BK180.out 0) | ((with_reducible refine gate_callee (f := 47) rfl ?_); refine goesL_ (some 123) rfl rfl Try.func47 (by kernel_rfl) rfl #[.agg #[.slice A0_0 l0_0.length c0_0], .string a1_1] rfl am ?_; (with_reducible refine (spec_l03Without.calls kj59 _ _ l0_0 a1_1 t205 _ ?side1 ?side2 A282.out).mono ?_); (case side1 => exact Kd.C_below HR0_0.out (hS)); (case side2 => exact HC0_0.out); rintro e w298 ⟨v206, rfl, ho0, hb⟩; refine ⟨_, rfl, ?_⟩; have n0_ := AM (Kd.R_lower (Kd.R_newB ho0 (g := gb186) (o := .cells #[.string x187000_59, .string x187001_59, .int .i64 x187002_59] 67 (0, 0)) (be)) (below_size (hS))); have n1_ := AM (blk_below (g := gb180) (o := .cells #[.slice A0_0 l0_0.length c0_0] 30 (0, 0)) (be) hb); have n2_ := AM (blk_below (g := gb181) (o := .cells #[.int .i64 a1_0, .string a1_1, .string a1_2, .string a1_3] 41 (0, 0)) (be) hb); have n3_ := AM (blk_below (g := gb182) (o := .cells #[.slice none 0 0] 30 (0, 0)) (be) hb); have n4_ := AM (blk_below (g := gb186) (o := .cells #[.string x187000_59, .string x187001_59, .int .i64 x187002_59] 67 (0, 0)) (be) hb); have n5_ := AM (blk_below (g := gb188) (o := .cells #[.slice none 0 0] 30 (0, 0)) (by (with_reducible repeat first | apply aN | apply aD | apply aA); refine blk_put (cs := #[.slice none 0 0]) ?_ 0 _ rfl; exact bk BK188) hb); have n6_ := AM (below_step (hS) hb); clear BK180; clear BK181; clear BK182; clear BK186; clear BK188; clear HB; have HO207 := n0_; have BK180 := n1_; have BK181 := n2_; have BK182 := n3_; have BK186 := n4_; have BK188 := n5_; have HB := n6_; clear n0_ n1_ n2_ n3_ n4_ n5_ n6_; (try clear hb); (try clear ho0); obtain ⟨Ao299, co299, eo299⟩ := Kd.R_slice HO207.out; subst eo299; have hcz300_0 : w298.cell? ⟨gb188, 0, none⟩ = some (.slice none 0 0) := bc BK188 0; have hfz300_0 := blk_frozen BK188.out 0) | ((with_reducible refine gate_callee (f := 41) rfl ?_); refine goesL_ (some 125) rfl rfl Try.func41 (by kernel_rfl) rfl #[.agg #[.slice Ao299 t205.length co299]] rfl am ?_; (with_reducible refine (spec_DiskOk.calls kj59 _ _ t205 true _ ?side1 ?side2 A283.out).mono ?_); (case side1 => refine (Kd.R_reads' (e := 67) (base := w.heap.size) (ok := fun k_ => (True ∧ k_ ≠ gb186)) (n := t205.length) (c := co299) ?_).2.2; exact (by exact (Kd.R_mono (Kd.R_far (p := ⟨gb188, 0, none⟩) (Kd.R_types HO207.out BK188.out (by decide)) (fun _ hk => hk.2) (.slice Ao299 t205.length co299)) (fun _ h_ => h_.1)))); (case side2 => exact (Kd.R_reads' HO207.out).2.1); rintro e w301 ⟨rfl, hb⟩; refine ⟨_, rfl, ?_⟩; have n0_ := AM (Kd.R_below (by exact (Kd.R_mono (Kd.R_far (p := ⟨gb188, 0, none⟩) (Kd.R_types HO207.out BK188.out (by decide)) (fun _ hk => hk.2) (.slice Ao299 t205.length co299)) (fun _ h_ => h_.1))) hb); have n1_ := AM (blk_below (g := gb180) (o := .cells #[.slice A0_0 l0_0.length c0_0] 30 (0, 0)) (be) hb); have n2_ := AM (blk_below (g := gb181) (o := .cells #[.int .i64 a1_0, .string a1_1, .string a1_2, .string a1_3] 41 (0, 0)) (be) hb); have n3_ := AM (blk_below (g := gb182) (o := .cells #[.slice none 0 0] 30 (0, 0)) (be) hb); have n4_ := AM (blk_below (g := gb186) (o := .cells #[.string x187000_59, .string x187001_59, .int .i64 x187002_59] 67 (0, 0)) (be) hb); have n5_ := AM (blk_below (g := gb188) (o := .cells #[.slice Ao299 t205.length co299] 30 (0, 0)) (by (with_reducible repeat first | apply aN | apply aD | apply aA); refine blk_put (cs := #[.slice none 0 0]) ?_ 0 _ rfl; exact bk BK188) hb); have n6_ := AM (below_step (hS) hb); clear HO207; clear BK180; clear BK181; clear BK182; clear BK186; clear BK188; clear HB; have HO207 := n0_; have BK180 := n1_; have BK181 := n2_; have BK182 := n3_; have BK186 := n4_; have BK188 := n5_; have HB := n6_; clear n0_ n1_ n2_ n3_ n4_ n5_ n6_; (try clear hb); (try clear hk); have hcz302_0 : w301.cell? ⟨gb188, 0, none⟩ = some (.slice Ao299 t205.length co299) := bc BK188 0; have hfz302_0 := blk_frozen BK188.out 0; have hnb303 := NB182_186.out; have hnc303 := NB186_182.out; have hcz304_0 : w301.cell? ⟨gb182, 0, none⟩ = some (.slice none 0 0) := bc BK182 0; have hfz304_0 := blk_frozen BK182.out 0))
       refine bodyPost_ret (results_ct rfl _ _ gb182 30 #[.slice Ao299 t205.length co299] (0, 0) _ rfl (by (with_reducible repeat first | apply aN | apply aD | apply aA); refine blk_put (cs := #[.slice none 0 0]) ?_ 0 _ rfl; exact bk BK182) Try.underlying30 rfl (by kernel_rfl)) rfl ?_
       exact ⟨_, by first | rfl | (simp [errW_none, errW_some] <;> rfl) | (simp [*, errW_none, errW_some] <;> rfl), by exact Kd.R_mono (Kd.R_far (p := ⟨gb182, 0, none⟩) (Kd.R_types HO207.out BK182.out (by decide)) (fun _ hk => hk.2) (.slice Ao299 t205.length co299)) (fun _ hk => trivial), hS⟩
      replace c284 := Bool.eq_false_iff.mpr c284
      subst c284
      have H1 : (some (([] : List (S67)), false)) = some (r1, r2) := by rw [if_neg (show ¬ (false = true) by decide)] at H; exact H
      clear H
      have H := H1
      clear H1
      simp only [Option.some.injEq, Prod.mk.injEq] at H
      obtain ⟨rfl, rfl⟩ := H
      go_wp2_with (first | ((with_reducible refine gate_dst (N := 8) rfl ?_); refine bx (N := 8) (cs := #[.slice none 0 0]) (t := 30) ?_; intro gb188 hg w305 hbox hb; have n0_ := AM (blk_below (bk BK180) hb); have n1_ := AM (blk_below (bk BK181) hb); have n2_ := AM (blk_below (bk BK182) hb); have n3_ := AM (blk_below (bk BK186) hb); have n4_ := AM (below_step (hS) hb); have n5_ := AM (hbox); have n6_ := AM (bt hg hS); have n7_ := AM (bt hg hS); have n8_ := AM (nl hg (bk BK180)); have n9_ := AM (ng hg (bk BK180)); have n10_ := AM (nl hg (bk BK181)); have n11_ := AM (ng hg (bk BK181)); have n12_ := AM (nl hg (bk BK182)); have n13_ := AM (ng hg (bk BK182)); have n14_ := AM (nl hg (bk BK186)); have n15_ := AM (ng hg (bk BK186)); clear BK180; clear BK181; clear BK182; clear BK186; clear HB; have BK180 := n0_; have BK181 := n1_; have BK182 := n2_; have BK186 := n3_; have HB := n4_; have BK188 := n5_; have GW188 := n6_; have GE188 := n7_; have NB180_188 := n8_; have NB188_180 := n9_; have NB181_188 := n10_; have NB188_181 := n11_; have NB182_188 := n12_; have NB188_182 := n13_; have NB186_188 := n14_; have NB188_186 := n15_; clear n0_ n1_ n2_ n3_ n4_ n5_ n6_ n7_ n8_ n9_ n10_ n11_ n12_ n13_ n14_ n15_; clear hb hbox hg; have hnb306 := NB188_180.out; have hnc306 := NB180_188.out; have hnb307 := NB188_181.out; have hnc307 := NB181_188.out; have hnb308 := NB188_182.out; have hnc308 := NB182_188.out; have hnb309 := NB188_186.out; have hnc309 := NB186_188.out; have hcz310_0 : w305.cell? ⟨gb188, 0, none⟩ = some (.slice none 0 0) := bc BK188 0; have hfz310_0 := blk_frozen BK188.out 0; have hnb311 := NB181_180.out; have hnc311 := NB180_181.out; have hnb312 := NB181_182.out; have hnc312 := NB182_181.out; have hnb313 := NB181_186.out; have hnc313 := NB186_181.out; have hcz314_0 : w305.cell? ⟨gb181, 0, none⟩ = some (.int .i64 a1_0) := bc BK181 0; have hcz314_1 : w305.cell? ⟨gb181, 1, none⟩ = some (.string a1_1) := bc BK181 1; have hcz314_2 : w305.cell? ⟨gb181, 2, none⟩ = some (.string a1_2) := bc BK181 2; have hcz314_3 : w305.cell? ⟨gb181, 3, none⟩ = some (.string a1_3) := bc BK181 3; have hfz314_0 := blk_frozen BK181.out 0; have hfz314_1 := blk_frozen BK181.out 1; have hfz314_2 := blk_frozen BK181.out 2; have hfz314_3 := blk_frozen BK181.out 3; have hnb315 := NB180_182.out; have hnc315 := NB182_180.out; have hnb316 := NB180_186.out; have hnc316 := NB186_180.out; have hcz317_0 : w305.cell? ⟨gb180, 0, none⟩ = some (.slice A0_0 l0_0.length c0_0) := bc BK180 0; have hfz317_0 := blk_frozen BK180.out 0) | ((with_reducible refine gate_callee (f := 47) rfl ?_); refine goesL_ (some 123) rfl rfl Try.func47 (by kernel_rfl) rfl #[.agg #[.slice A0_0 l0_0.length c0_0], .string a1_1] rfl am ?_; (with_reducible refine (spec_l03Without.calls kj59 _ _ l0_0 a1_1 t205 _ ?side1 ?side2 A282.out).mono ?_); (case side1 => exact Kd.C_below HR0_0.out (hS)); (case side2 => exact HC0_0.out); rintro e w318 ⟨v206, rfl, ho0, hb⟩; refine ⟨_, rfl, ?_⟩; have n0_ := AM (Kd.R_lower (Kd.R_newB ho0 (g := gb186) (o := .cells #[.string x187000_59, .string x187001_59, .int .i64 x187002_59] 67 (0, 0)) (be)) (below_size (hS))); have n1_ := AM (blk_below (g := gb180) (o := .cells #[.slice A0_0 l0_0.length c0_0] 30 (0, 0)) (be) hb); have n2_ := AM (blk_below (g := gb181) (o := .cells #[.int .i64 a1_0, .string a1_1, .string a1_2, .string a1_3] 41 (0, 0)) (be) hb); have n3_ := AM (blk_below (g := gb182) (o := .cells #[.slice none 0 0] 30 (0, 0)) (be) hb); have n4_ := AM (blk_below (g := gb186) (o := .cells #[.string x187000_59, .string x187001_59, .int .i64 x187002_59] 67 (0, 0)) (be) hb); have n5_ := AM (blk_below (g := gb188) (o := .cells #[.slice none 0 0] 30 (0, 0)) (by (with_reducible repeat first | apply aN | apply aD | apply aA); refine blk_put (cs := #[.slice none 0 0]) ?_ 0 _ rfl; exact bk BK188) hb); have n6_ := AM (below_step (hS) hb); clear BK180; clear BK181; clear BK182; clear BK186; clear BK188; clear HB; have HO207 := n0_; have BK180 := n1_; have BK181 := n2_; have BK182 := n3_; have BK186 := n4_; have BK188 := n5_; have HB := n6_; clear n0_ n1_ n2_ n3_ n4_ n5_ n6_; (try clear hb); (try clear ho0); obtain ⟨Ao319, co319, eo319⟩ := Kd.R_slice HO207.out; subst eo319; have hcz320_0 : w318.cell? ⟨gb188, 0, none⟩ = some (.slice none 0 0) := bc BK188 0; have hfz320_0 := blk_frozen BK188.out 0) | ((with_reducible refine gate_callee (f := 41) rfl ?_); refine goesL_ (some 125) rfl rfl Try.func41 (by kernel_rfl) rfl #[.agg #[.slice Ao319 t205.length co319]] rfl am ?_; (with_reducible refine (spec_DiskOk.calls kj59 _ _ t205 false _ ?side1 ?side2 A283.out).mono ?_); (case side1 => refine (Kd.R_reads' (e := 67) (base := w.heap.size) (ok := fun k_ => (True ∧ k_ ≠ gb186)) (n := t205.length) (c := co319) ?_).2.2; exact (by exact (Kd.R_mono (Kd.R_far (p := ⟨gb188, 0, none⟩) (Kd.R_types HO207.out BK188.out (by decide)) (fun _ hk => hk.2) (.slice Ao319 t205.length co319)) (fun _ h_ => h_.1)))); (case side2 => exact (Kd.R_reads' HO207.out).2.1); rintro e w321 ⟨rfl, hb⟩; refine ⟨_, rfl, ?_⟩; have n0_ := AM (Kd.R_below (by exact (Kd.R_mono (Kd.R_far (p := ⟨gb188, 0, none⟩) (Kd.R_types HO207.out BK188.out (by decide)) (fun _ hk => hk.2) (.slice Ao319 t205.length co319)) (fun _ h_ => h_.1))) hb); have n1_ := AM (blk_below (g := gb180) (o := .cells #[.slice A0_0 l0_0.length c0_0] 30 (0, 0)) (be) hb); have n2_ := AM (blk_below (g := gb181) (o := .cells #[.int .i64 a1_0, .string a1_1, .string a1_2, .string a1_3] 41 (0, 0)) (be) hb); have n3_ := AM (blk_below (g := gb182) (o := .cells #[.slice none 0 0] 30 (0, 0)) (be) hb); have n4_ := AM (blk_below (g := gb186) (o := .cells #[.string x187000_59, .string x187001_59, .int .i64 x187002_59] 67 (0, 0)) (be) hb); have n5_ := AM (blk_below (g := gb188) (o := .cells #[.slice Ao319 t205.length co319] 30 (0, 0)) (by (with_reducible repeat first | apply aN | apply aD | apply aA); refine blk_put (cs := #[.slice none 0 0]) ?_ 0 _ rfl; exact bk BK188) hb); have n6_ := AM (below_step (hS) hb); clear HO207; clear BK180; clear BK181; clear BK182; clear BK186; clear BK188; clear HB; have HO207 := n0_; have BK180 := n1_; have BK181 := n2_; have BK182 := n3_; have BK186 := n4_; have BK188 := n5_; have HB := n6_; clear n0_ n1_ n2_ n3_ n4_ n5_ n6_; (try clear hb); (try clear hk); have hnb322 := NB182_186.out; have hnc322 := NB186_182.out; have hcz323_0 : w321.cell? ⟨gb182, 0, none⟩ = some (.slice none 0 0) := bc BK182 0; have hfz323_0 := blk_frozen BK182.out 0))
      refine bodyPost_ret (results_ct rfl _ _ gb182 30 #[.slice none 0 0] (0, 0) _ rfl (by (with_reducible repeat first | apply aN | apply aD | apply aA); refine blk_put (cs := #[.slice none 0 0]) ?_ 0 _ rfl; exact bk BK182) Try.underlying30 rfl (by kernel_rfl)) rfl ?_
      exact ⟨_, by first | rfl | (simp [errW_none, errW_some] <;> rfl) | (simp [*, errW_none, errW_some] <;> rfl), by first | exact Kd.R_nil _ _ _ _ _ | exact Kd.N_nil _ _ _ _ _ | exact Kd.V_nil _ _ _ _ _ | exact Kd.Q_nil _ _ _ _ _ | exact Kd.S_nil _ _ _ _ _, hS⟩
     rw [if_neg c281] at H
     have c281b0 : (a1_0 == 4) = false := beq_eq_false_iff_ne.mpr c281
     have c281b1 : (a1_0 != 4) = true := bne_iff_ne.mpr c281
     simp only [Option.some.injEq, Prod.mk.injEq] at H
     obtain ⟨rfl, rfl⟩ := H
     go_wp2_with (first | ((with_reducible refine gate_dst (N := 8) rfl ?_); refine bx (N := 8) (cs := #[.slice none 0 0]) (t := 30) ?_; intro gb188 hg w324 hbox hb; have n0_ := AM (blk_below (bk BK180) hb); have n1_ := AM (blk_below (bk BK181) hb); have n2_ := AM (blk_below (bk BK182) hb); have n3_ := AM (blk_below (bk BK186) hb); have n4_ := AM (below_step (hS) hb); have n5_ := AM (hbox); have n6_ := AM (bt hg hS); have n7_ := AM (bt hg hS); have n8_ := AM (nl hg (bk BK180)); have n9_ := AM (ng hg (bk BK180)); have n10_ := AM (nl hg (bk BK181)); have n11_ := AM (ng hg (bk BK181)); have n12_ := AM (nl hg (bk BK182)); have n13_ := AM (ng hg (bk BK182)); have n14_ := AM (nl hg (bk BK186)); have n15_ := AM (ng hg (bk BK186)); clear BK180; clear BK181; clear BK182; clear BK186; clear HB; have BK180 := n0_; have BK181 := n1_; have BK182 := n2_; have BK186 := n3_; have HB := n4_; have BK188 := n5_; have GW188 := n6_; have GE188 := n7_; have NB180_188 := n8_; have NB188_180 := n9_; have NB181_188 := n10_; have NB188_181 := n11_; have NB182_188 := n12_; have NB188_182 := n13_; have NB186_188 := n14_; have NB188_186 := n15_; clear n0_ n1_ n2_ n3_ n4_ n5_ n6_ n7_ n8_ n9_ n10_ n11_ n12_ n13_ n14_ n15_; clear hb hbox hg; have hnb325 := NB188_180.out; have hnc325 := NB180_188.out; have hnb326 := NB188_181.out; have hnc326 := NB181_188.out; have hnb327 := NB188_182.out; have hnc327 := NB182_188.out; have hnb328 := NB188_186.out; have hnc328 := NB186_188.out; have hcz329_0 : w324.cell? ⟨gb188, 0, none⟩ = some (.slice none 0 0) := bc BK188 0; have hfz329_0 := blk_frozen BK188.out 0; have hnb330 := NB181_180.out; have hnc330 := NB180_181.out; have hnb331 := NB181_182.out; have hnc331 := NB182_181.out; have hnb332 := NB181_186.out; have hnc332 := NB186_181.out; have hcz333_0 : w324.cell? ⟨gb181, 0, none⟩ = some (.int .i64 a1_0) := bc BK181 0; have hcz333_1 : w324.cell? ⟨gb181, 1, none⟩ = some (.string a1_1) := bc BK181 1; have hcz333_2 : w324.cell? ⟨gb181, 2, none⟩ = some (.string a1_2) := bc BK181 2; have hcz333_3 : w324.cell? ⟨gb181, 3, none⟩ = some (.string a1_3) := bc BK181 3; have hfz333_0 := blk_frozen BK181.out 0; have hfz333_1 := blk_frozen BK181.out 1; have hfz333_2 := blk_frozen BK181.out 2; have hfz333_3 := blk_frozen BK181.out 3; have hnb334 := NB182_180.out; have hnc334 := NB180_182.out; have hnb335 := NB182_186.out; have hnc335 := NB186_182.out; have hcz336_0 : w324.cell? ⟨gb182, 0, none⟩ = some (.slice none 0 0) := bc BK182 0; have hfz336_0 := blk_frozen BK182.out 0))
     refine bodyPost_ret (results_ct rfl _ _ gb182 30 #[.slice none 0 0] (0, 0) _ rfl (by (with_reducible repeat first | apply aN | apply aD | apply aA); refine blk_put (cs := #[.slice none 0 0]) ?_ 0 _ rfl; (with_reducible repeat first | apply aN | apply aD | apply aA); refine blk_far ?_ NB182_188.out _; exact bk BK182) Try.underlying30 rfl (by kernel_rfl)) rfl ?_
     exact ⟨_, by first | rfl | (simp [errW_none, errW_some] <;> rfl) | (simp [*, errW_none, errW_some] <;> rfl), by first | exact Kd.R_nil _ _ _ _ _ | exact Kd.N_nil _ _ _ _ _ | exact Kd.V_nil _ _ _ _ _ | exact Kd.Q_nil _ _ _ _ _ | exact Kd.S_nil _ _ _ _ _, hS⟩

end Go.Proofs.Ytnkldnkolcighaa.XFnExactDoActs
