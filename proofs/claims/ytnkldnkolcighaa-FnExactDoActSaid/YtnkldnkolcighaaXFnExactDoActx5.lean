/- What the functions of a law compute, and that their calls compute it: written by a program of this session (xprint.py), which turns the kit print at a few places. -/
import Derived.Test.YtnkldnkolcighaaXFnExactDoActx0
import Derived.Test.YtnkldnkolcighaaXFnExactDoActx2
import Derived.Test.YtnkldnkolcighaaXFnExactDoActx3
import Derived.Test.YtnkldnkolcighaaXFnExactDoActx4
namespace Go.Proofs.Ytnkldnkolcighaa.XFnExactDoAct
open Go.RowKit Go.Proofs.YtnkldnkolcighaaV.PrintWords Go.Proofs.YtnkldnkolcighaaV.PrintLast Go.Proofs.YtnkldnkolcighaaV.PrintMore
attribute [local go_sem] max2_int min2_int max_two min_two max_three min_three max_four min_four str_geq str_gtr   -- for this text's walks alone
set_option linter.unusedVariables false
set_option linter.unusedSimpArgs false

/-! ### spec_DoAct: function 17 -/
mutual
def spec_DoAct.j0 : Nat → Bool → List (S67) → Int → ByteArray → ByteArray → ByteArray → Option ((List (S67)) × Bool)
 | 0, _, _, _, _, _, _ => none
 | k + 1, x37, x161000, x162000, x162001, x162002, x162003 => if x37 = true then (some (([] : List (S67)), false)) else ((spec_l03At.f k x161000 x162001).bind fun t165 => (if t165 ≥ 0 then (if 0 ≤ t165 then (if t165 < (x161000.length : Int) then (spec_DoAct.j1 k t165 x161000 x162000 x162001 x162002 x162003 ((rd_T67 x161000 t165).f0) ((rd_T67 x161000 t165).f1) ((rd_T67 x161000 t165).f2)) else (none)) else (none)) else (spec_DoAct.j1 k t165 x161000 x162000 x162001 x162002 x162003 x162001 (⟨#[]⟩ : ByteArray) 0)))
def spec_DoAct.j1 : Nat → Int → List (S67) → Int → ByteArray → ByteArray → ByteArray → ByteArray → ByteArray → Int → Option ((List (S67)) × Bool)
 | 0, _, _, _, _, _, _, _, _, _ => none
 | k + 1, x6, x161000, x162000, x162001, x162002, x162003, x167000, x167001, x167002 => if x162000 = 1 then (if x167001.size + x162002.size ≤ 9223372036854775807 then ((spec_l03Put.f k x161000 x167000 (x167001 ++ x162002) x167002).bind fun t169 => ((spec_DiskOk.f k t169).bind fun t172 => (if t172 = true then (some (t169, true)) else (some (([] : List (S67)), false))))) else (none)) else (if x6 < 0 then (some (([] : List (S67)), false)) else (if x162000 = 2 then ((spec_l03Put.f k x161000 x167000 x167001 (x167001.size : Int)).bind fun t173 => ((spec_DiskOk.f k t173).bind fun t176 => (if t176 = true then (some (t173, true)) else (some (([] : List (S67)), false))))) else (if x162000 = 3 then (if x167002 < (x167001.size : Int) then (spec_DoAct.j2 k true x161000 x162000 x162001 x162002 x162003 x167000 x167001 x167002) else (if x162003.toList = x162001.toList then (spec_DoAct.j2 k true x161000 x162000 x162001 x162002 x162003 x167000 x167001 x167002) else ((spec_l03Name.f x162003).bind fun t177 => (spec_DoAct.j2 k (!t177) x161000 x162000 x162001 x162002 x162003 x167000 x167001 x167002)))) else (if x162000 = 4 then ((spec_l03Without.f k x161000 x162001).bind fun t185 => ((spec_DiskOk.f k t185).bind fun t188 => (if t188 = true then (some (t185, true)) else (some (([] : List (S67)), false))))) else (some (([] : List (S67)), false))))))
def spec_DoAct.j2 : Nat → Bool → List (S67) → Int → ByteArray → ByteArray → ByteArray → ByteArray → ByteArray → Int → Option ((List (S67)) × Bool)
 | 0, _, _, _, _, _, _, _, _, _ => none
 | k + 1, x105, x161000, x162000, x162001, x162002, x162003, x167000, x167001, x167002 => if x105 = true then (some (([] : List (S67)), false)) else ((spec_l03Without.f k x161000 x162001).bind fun t178 => ((spec_l03Put.f k t178 x162003 x167001 x167002).bind fun t181 => ((spec_DiskOk.f k t181).bind fun t184 => (if t184 = true then (some (t181, true)) else (some (([] : List (S67)), false))))))
end
def spec_DoAct.f (k : Nat) (l0_0 : List (S67)) (a1_0 : Int) (a1_1 : ByteArray) (a1_2 : ByteArray) (a1_3 : ByteArray) : Option ((List (S67)) × Bool) := (spec_DiskOk.f k l0_0).bind fun t163 => (if t163 = true then ((spec_l03Name.f a1_1).bind fun t164 => (if t164 = true then (if a1_0 = 3 then (if a1_0 = 1 then (spec_DoAct.j0 k false l0_0 a1_0 a1_1 a1_2 a1_3) else (spec_DoAct.j0 k (a1_2.toList != ([] : List UInt8)) l0_0 a1_0 a1_1 a1_2 a1_3)) else (if a1_3.toList = ([] : List UInt8) then (if a1_0 = 1 then (spec_DoAct.j0 k false l0_0 a1_0 a1_1 a1_2 a1_3) else (spec_DoAct.j0 k (a1_2.toList != ([] : List UInt8)) l0_0 a1_0 a1_1 a1_2 a1_3)) else (spec_DoAct.j0 k true l0_0 a1_0 a1_1 a1_2 a1_3))) else (spec_DoAct.j0 k true l0_0 a1_0 a1_1 a1_2 a1_3))) else (spec_DoAct.j0 k true l0_0 a1_0 a1_1 a1_2 a1_3))
theorem spec_DoAct.mono_l : ∀ k, (∀ y0 y1 y2 y3 y4 y5, LeO (spec_DoAct.j0 k y0 y1 y2 y3 y4 y5) (spec_DoAct.j0 (k + 1) y0 y1 y2 y3 y4 y5)) ∧ (∀ y0 y1 y2 y3 y4 y5 y6 y7 y8, LeO (spec_DoAct.j1 k y0 y1 y2 y3 y4 y5 y6 y7 y8) (spec_DoAct.j1 (k + 1) y0 y1 y2 y3 y4 y5 y6 y7 y8)) ∧ (∀ y0 y1 y2 y3 y4 y5 y6 y7 y8, LeO (spec_DoAct.j2 k y0 y1 y2 y3 y4 y5 y6 y7 y8) (spec_DoAct.j2 (k + 1) y0 y1 y2 y3 y4 y5 y6 y7 y8))
 | 0 => ⟨fun _ _ _ _ _ _ r h => by simp [spec_DoAct.j0] at h, fun _ _ _ _ _ _ _ _ _ r h => by simp [spec_DoAct.j1] at h, fun _ _ _ _ _ _ _ _ _ r h => by simp [spec_DoAct.j2] at h⟩
 | k + 1 => by
  obtain ⟨ih0, ih1, ih2⟩ := spec_DoAct.mono_l k
  refine ⟨?_, ?_, ?_⟩
  ·intro y0 y1 y2 y3 y4 y5
   unfold spec_DoAct.j0
   repeat' first
   | (with_reducible exact LeO.refl _)
   | (with_reducible refine LeO.ite ?_ ?_)
   | (with_reducible refine LeO.bind ?_ (fun _ => ?_))
   | exact ih0 _ _ _ _ _ _
   | exact ih1 _ _ _ _ _ _ _ _ _
   | exact ih2 _ _ _ _ _ _ _ _ _
   | exact spec_DiskOk.mono _ _
   | exact spec_l03At.mono _ _ _
   | exact spec_l03Put.mono _ _ _ _ _
   | exact spec_l03Without.mono _ _ _
   | exact LeO.none _
   | refine LeO.ite ?_ ?_
   | refine LeO.bind ?_ (fun _ => ?_)
  ·intro y0 y1 y2 y3 y4 y5 y6 y7 y8
   unfold spec_DoAct.j1
   repeat' first
   | (with_reducible exact LeO.refl _)
   | (with_reducible refine LeO.ite ?_ ?_)
   | (with_reducible refine LeO.bind ?_ (fun _ => ?_))
   | exact ih0 _ _ _ _ _ _
   | exact ih1 _ _ _ _ _ _ _ _ _
   | exact ih2 _ _ _ _ _ _ _ _ _
   | exact spec_DiskOk.mono _ _
   | exact spec_l03At.mono _ _ _
   | exact spec_l03Put.mono _ _ _ _ _
   | exact spec_l03Without.mono _ _ _
   | exact LeO.none _
   | refine LeO.ite ?_ ?_
   | refine LeO.bind ?_ (fun _ => ?_)
  intro y0 y1 y2 y3 y4 y5 y6 y7 y8
  unfold spec_DoAct.j2
  repeat' first
  | (with_reducible exact LeO.refl _)
  | (with_reducible refine LeO.ite ?_ ?_)
  | (with_reducible refine LeO.bind ?_ (fun _ => ?_))
  | exact ih0 _ _ _ _ _ _
  | exact ih1 _ _ _ _ _ _ _ _ _
  | exact ih2 _ _ _ _ _ _ _ _ _
  | exact spec_DiskOk.mono _ _
  | exact spec_l03At.mono _ _ _
  | exact spec_l03Put.mono _ _ _ _ _
  | exact spec_l03Without.mono _ _ _
  | exact LeO.none _
  | refine LeO.ite ?_ ?_
  | refine LeO.bind ?_ (fun _ => ?_)
theorem spec_DoAct.mono : ∀ a0 a1 a2 a3 a4 k, LeO (spec_DoAct.f k a0 a1 a2 a3 a4) (spec_DoAct.f (k + 1) a0 a1 a2 a3 a4) := by
 intro a0 a1 a2 a3 a4 k
 obtain ⟨ih0, ih1, ih2⟩ := spec_DoAct.mono_l k
 unfold spec_DoAct.f
 repeat' first
   | (with_reducible exact LeO.refl _)
   | (with_reducible refine LeO.ite ?_ ?_)
   | (with_reducible refine LeO.bind ?_ (fun _ => ?_))
   | exact ih0 _ _ _ _ _ _
   | exact ih1 _ _ _ _ _ _ _ _ _
   | exact ih2 _ _ _ _ _ _ _ _ _
   | exact spec_DiskOk.mono _ _
   | exact spec_l03At.mono _ _ _
   | exact spec_l03Put.mono _ _ _ _ _
   | exact spec_l03Without.mono _ _ _
   | exact LeO.none _
   | refine LeO.ite ?_ ?_
   | refine LeO.bind ?_ (fun _ => ?_)
set_option maxHeartbeats 8000000 in
set_option maxRecDepth 100000 in
theorem spec_DoAct.calls (k : Nat) (A0_0 : Option Addr) (c0_0 : Nat) (l0_0 : List (S67)) (a1_0 : Int) (a1_1 : ByteArray) (a1_2 : ByteArray) (a1_3 : ByteArray) (r1 : List (S67)) (r2 : Bool) (w : World) (hr0_0 : Kd.C k67 w A0_0 l0_0.length l0_0) (hc0_0 : l0_0.length ≤ c0_0) (h : spec_DoAct.f k l0_0 a1_0 a1_1 a1_2 a1_3 = some (r1, r2)) :
  Calls Try.prog 17 #[.agg #[.slice A0_0 l0_0.length c0_0], .agg #[.int .i64 a1_0, .string a1_1, .string a1_2, .string a1_3]] w fun e w' => ∃ v0_ : Value, e = .returned (.tuple #[.agg #[v0_], .bool r2]) ∧ Kd.R k67 67 w' w.heap.size (fun _ => True) v0_ r1 ∧ Below w.heap.size w w' := by
 have hu30 := Try.underlying30
 have hu41 := Try.underlying41
 have hu67 := Try.underlying67
 have HR0_0 := AM hr0_0
 have HC0_0 := AM hc0_0
 clear hr0_0 hc0_0
 have HB := AM (Below.refl w.heap.size w)
 have H : ((spec_DiskOk.f k l0_0).bind fun t163 => (if t163 = true then ((spec_l03Name.f a1_1).bind fun t164 => (if t164 = true then (if a1_0 = 3 then (if a1_0 = 1 then (spec_DoAct.j0 k false l0_0 a1_0 a1_1 a1_2 a1_3) else (spec_DoAct.j0 k (a1_2.toList != ([] : List UInt8)) l0_0 a1_0 a1_1 a1_2 a1_3)) else (if a1_3.toList = ([] : List UInt8) then (if a1_0 = 1 then (spec_DoAct.j0 k false l0_0 a1_0 a1_1 a1_2 a1_3) else (spec_DoAct.j0 k (a1_2.toList != ([] : List UInt8)) l0_0 a1_0 a1_1 a1_2 a1_3)) else (spec_DoAct.j0 k true l0_0 a1_0 a1_1 a1_2 a1_3))) else (spec_DoAct.j0 k true l0_0 a1_0 a1_1 a1_2 a1_3))) else (spec_DoAct.j0 k true l0_0 a1_0 a1_1 a1_2 a1_3))) = some (r1, r2) := h
 clear h
 have HC3 := AM H
 clear H
 go_enter Try.func17, Try.ntmps17
 go_upto_region 1 with (first | ((with_reducible refine gate_dst (N := 2) rfl ?_); refine box_event ?hg (N := 2) ?hd (cs := #[.slice A0_0 l0_0.length c0_0]) (t := 30) ?hr ?_; (case hd => rfl); (case hg => rfl); (case hr => first | (go_simp; done) | (go_simp; rfl)); intro gb160 hg w4 hbox hb; have n0_ := AM (below_step (hB HB) hb); have n1_ := AM (hbox); have n2_ := AM ((by rw [hg]; exact (below_size (hB HB)) : w.heap.size ≤ gb160)); have n3_ := AM ((by rw [hg]; exact (below_size (hB HB)) : w.heap.size ≤ gb160)); clear HB; have HB := n0_; have BK160 := n1_; have GW160 := n2_; have GE160 := n3_; clear n0_ n1_ n2_ n3_; clear hb hbox hg) | ((with_reducible refine gate_dst (N := 3) rfl ?_); refine box_event ?hg (N := 3) ?hd (cs := #[.int .i64 a1_0, .string a1_1, .string a1_2, .string a1_3]) (t := 41) ?hr ?_; (case hd => rfl); (case hg => rfl); (case hr => first | (go_simp; done) | (go_simp; rfl)); intro gb161 hg w5 hbox hb; have n0_ := AM (blk_below (g := gb160) (o := .cells #[.slice A0_0 l0_0.length c0_0] 30 (0, 0)) (bk BK160) hb); have n1_ := AM (below_step (hS) hb); have n2_ := AM (hbox); have n3_ := AM ((by rw [hg]; exact (below_size (hS)) : w.heap.size ≤ gb161)); have n4_ := AM ((by rw [hg]; exact (below_size (hS)) : w.heap.size ≤ gb161)); have n5_ := AM ((by rw [hg]; exact Nat.ne_of_lt (blk_lt (g := gb160) (o := .cells #[.slice A0_0 l0_0.length c0_0] 30 (0, 0)) (bk BK160)) : gb160 ≠ gb161)); have n6_ := AM ((by rw [hg]; exact Nat.ne_of_gt (blk_lt (g := gb160) (o := .cells #[.slice A0_0 l0_0.length c0_0] 30 (0, 0)) (bk BK160)) : gb161 ≠ gb160)); clear BK160; clear HB; have BK160 := n0_; have HB := n1_; have BK161 := n2_; have GW161 := n3_; have GE161 := n4_; have NB160_161 := n5_; have NB161_160 := n6_; clear n0_ n1_ n2_ n3_ n4_ n5_ n6_; clear hb hbox hg) | ((with_reducible refine gate_dst (N := 4) rfl ?_); refine box_event ?hg (N := 4) ?hd (cs := #[.slice none 0 0]) (t := 30) ?hr ?_; (case hd => rfl); (case hg => rfl); (case hr => first | (go_simp; done) | (go_simp; rfl)); intro gb162 hg w6 hbox hb; have n0_ := AM (blk_below (g := gb160) (o := .cells #[.slice A0_0 l0_0.length c0_0] 30 (0, 0)) (bk BK160) hb); have n1_ := AM (blk_below (g := gb161) (o := .cells #[.int .i64 a1_0, .string a1_1, .string a1_2, .string a1_3] 41 (0, 0)) (bk BK161) hb); have n2_ := AM (below_step (hS) hb); have n3_ := AM (hbox); have n4_ := AM ((by rw [hg]; exact (below_size (hS)) : w.heap.size ≤ gb162)); have n5_ := AM ((by rw [hg]; exact (below_size (hS)) : w.heap.size ≤ gb162)); have n6_ := AM ((by rw [hg]; exact Nat.ne_of_lt (blk_lt (g := gb160) (o := .cells #[.slice A0_0 l0_0.length c0_0] 30 (0, 0)) (bk BK160)) : gb160 ≠ gb162)); have n7_ := AM ((by rw [hg]; exact Nat.ne_of_gt (blk_lt (g := gb160) (o := .cells #[.slice A0_0 l0_0.length c0_0] 30 (0, 0)) (bk BK160)) : gb162 ≠ gb160)); have n8_ := AM ((by rw [hg]; exact Nat.ne_of_lt (blk_lt (g := gb161) (o := .cells #[.int .i64 a1_0, .string a1_1, .string a1_2, .string a1_3] 41 (0, 0)) (bk BK161)) : gb161 ≠ gb162)); have n9_ := AM ((by rw [hg]; exact Nat.ne_of_gt (blk_lt (g := gb161) (o := .cells #[.int .i64 a1_0, .string a1_1, .string a1_2, .string a1_3] 41 (0, 0)) (bk BK161)) : gb162 ≠ gb161)); clear BK160; clear BK161; clear HB; have BK160 := n0_; have BK161 := n1_; have HB := n2_; have BK162 := n3_; have GW162 := n4_; have GE162 := n5_; have NB160_162 := n6_; have NB162_160 := n7_; have NB161_162 := n8_; have NB162_161 := n9_; clear n0_ n1_ n2_ n3_ n4_ n5_ n6_ n7_ n8_ n9_; clear hb hbox hg))
 (try simp only [Act.put, qT, q0, qS])
 go_cut [37] (fun v37 wc => ∃ (kq : Nat) (x37_2 : Bool), v37 = .bool x37_2 ∧ Aside0 (spec_DoAct.j0 kq x37_2 l0_0 a1_0 a1_1 a1_2 a1_3 = some (r1, r2)) ∧ Aside0 (kq ≤ k) ∧ Aside0 (wc.heap[gb160]? = some (.cells #[(.slice A0_0 l0_0.length c0_0)] 30 (0, 0))) ∧ Aside0 (wc.heap[gb161]? = some (.cells #[.int .i64 a1_0, .string a1_1, .string a1_2, .string a1_3] 41 (0, 0))) ∧ Aside0 (wc.heap[gb162]? = some (.cells #[(.slice none 0 0)] 30 (0, 0))) ∧ Aside0 (Below w.heap.size w wc))
 case first =>
  have H := HC3.out
  clear HC3
  replace H := bm H
  obtain ⟨t163, A70, H⟩ := H
  replace H : (if t163 = true then ((spec_l03Name.f a1_1).bind fun t164 => (if t164 = true then (if a1_0 = 3 then (if a1_0 = 1 then (spec_DoAct.j0 k false l0_0 a1_0 a1_1 a1_2 a1_3) else (spec_DoAct.j0 k (a1_2.toList != ([] : List UInt8)) l0_0 a1_0 a1_1 a1_2 a1_3)) else (if a1_3.toList = ([] : List UInt8) then (if a1_0 = 1 then (spec_DoAct.j0 k false l0_0 a1_0 a1_1 a1_2 a1_3) else (spec_DoAct.j0 k (a1_2.toList != ([] : List UInt8)) l0_0 a1_0 a1_1 a1_2 a1_3)) else (spec_DoAct.j0 k true l0_0 a1_0 a1_1 a1_2 a1_3))) else (spec_DoAct.j0 k true l0_0 a1_0 a1_1 a1_2 a1_3))) else (spec_DoAct.j0 k true l0_0 a1_0 a1_1 a1_2 a1_3)) = some (r1, r2) := H
  have A7 := AM A70
  clear A70
  by_cases c8 : t163 = true
  ·subst c8
   have H1 : ((spec_l03Name.f a1_1).bind fun t164 => (if t164 = true then (if a1_0 = 3 then (if a1_0 = 1 then (spec_DoAct.j0 k false l0_0 a1_0 a1_1 a1_2 a1_3) else (spec_DoAct.j0 k (a1_2.toList != ([] : List UInt8)) l0_0 a1_0 a1_1 a1_2 a1_3)) else (if a1_3.toList = ([] : List UInt8) then (if a1_0 = 1 then (spec_DoAct.j0 k false l0_0 a1_0 a1_1 a1_2 a1_3) else (spec_DoAct.j0 k (a1_2.toList != ([] : List UInt8)) l0_0 a1_0 a1_1 a1_2 a1_3)) else (spec_DoAct.j0 k true l0_0 a1_0 a1_1 a1_2 a1_3))) else (spec_DoAct.j0 k true l0_0 a1_0 a1_1 a1_2 a1_3))) = some (r1, r2) := by rw [if_pos rfl] at H; exact H
   clear H
   have H := H1
   clear H1
   replace H := bm H
   obtain ⟨t164, A90, H⟩ := H
   replace H : (if t164 = true then (if a1_0 = 3 then (if a1_0 = 1 then (spec_DoAct.j0 k false l0_0 a1_0 a1_1 a1_2 a1_3) else (spec_DoAct.j0 k (a1_2.toList != ([] : List UInt8)) l0_0 a1_0 a1_1 a1_2 a1_3)) else (if a1_3.toList = ([] : List UInt8) then (if a1_0 = 1 then (spec_DoAct.j0 k false l0_0 a1_0 a1_1 a1_2 a1_3) else (spec_DoAct.j0 k (a1_2.toList != ([] : List UInt8)) l0_0 a1_0 a1_1 a1_2 a1_3)) else (spec_DoAct.j0 k true l0_0 a1_0 a1_1 a1_2 a1_3))) else (spec_DoAct.j0 k true l0_0 a1_0 a1_1 a1_2 a1_3)) = some (r1, r2) := H
   have A9 := AM A90
   clear A90
   by_cases c10 : t164 = true
   ·subst c10
    have H1 : (if a1_0 = 3 then (if a1_0 = 1 then (spec_DoAct.j0 k false l0_0 a1_0 a1_1 a1_2 a1_3) else (spec_DoAct.j0 k (a1_2.toList != ([] : List UInt8)) l0_0 a1_0 a1_1 a1_2 a1_3)) else (if a1_3.toList = ([] : List UInt8) then (if a1_0 = 1 then (spec_DoAct.j0 k false l0_0 a1_0 a1_1 a1_2 a1_3) else (spec_DoAct.j0 k (a1_2.toList != ([] : List UInt8)) l0_0 a1_0 a1_1 a1_2 a1_3)) else (spec_DoAct.j0 k true l0_0 a1_0 a1_1 a1_2 a1_3))) = some (r1, r2) := by rw [if_pos rfl] at H; exact H
    clear H
    have H := H1
    clear H1
    by_cases c11 : a1_0 = 3
    ·rw [if_pos c11] at H
     have c11b0 : (a1_0 == 3) = true := beq_iff_eq.mpr c11
     have c11b1 : (a1_0 != 3) = false := bne_eq_false_iff_eq.mpr c11
     clear c11
     (first | rw [c11b0] | (simp only [i64_w, i32_w]; rw [c11b0]) | rw [c11b1] | skip)
     by_cases c12 : a1_0 = 1
     ·rw [if_pos c12] at H
      have c12b0 : (a1_0 == 1) = true := beq_iff_eq.mpr c12
      have c12b1 : (a1_0 != 1) = false := bne_eq_false_iff_eq.mpr c12
      clear c12
      have H' := AM H
      clear H
      have hnb13 := NB160_161.out
      have hnc13 := NB161_160.out
      have hnb14 := NB160_162.out
      have hnc14 := NB162_160.out
      have hcz15_0 : w6.cell? ⟨gb160, 0, none⟩ = some (.slice A0_0 l0_0.length c0_0) := (blk_cell BK160.out 0).trans rfl
      have hfz15_0 := blk_frozen BK160.out 0
      go_wp2_with (first | ((with_reducible refine gate_callee (f := 41) rfl ?_); refine goesL_ (some 10) rfl rfl Try.func41 (by kernel_rfl) rfl #[.agg #[.slice A0_0 l0_0.length c0_0]] rfl (by (try simp only [List.map_toArray, List.map_cons, List.map_nil]); first | done | rfl) ?_; (with_reducible refine (spec_DiskOk.calls k _ _ l0_0 true _ ?side1 ?side2 A7.out).mono ?_); (case side1 => repeat (first | exact (Kd.C_below HR0_0.out HB.out) | (with_reducible refine Kd.C_alloc ?_ _) | (with_reducible refine Kd.C_drewN ?_ _) | (with_reducible refine Kd.C_drew ?_))); (case side2 => exact HC0_0.out); rintro e w16 ⟨rfl, hb⟩; refine ⟨_, rfl, ?_⟩; have n0_ := AM (blk_below (g := gb160) (o := .cells #[.slice A0_0 l0_0.length c0_0] 30 (0, 0)) (bk BK160) hb); have n1_ := AM (blk_below (g := gb161) (o := .cells #[.int .i64 a1_0, .string a1_1, .string a1_2, .string a1_3] 41 (0, 0)) (bk BK161) hb); have n2_ := AM (blk_below (g := gb162) (o := .cells #[.slice none 0 0] 30 (0, 0)) (bk BK162) hb); have n3_ := AM (below_step (hS) hb); clear BK160; clear BK161; clear BK162; clear HB; have BK160 := n0_; have BK161 := n1_; have BK162 := n2_; have HB := n3_; clear n0_ n1_ n2_ n3_; (try clear hb); have hnb17 := NB161_162.out; have hnc17 := NB162_161.out; have hcz18_0 : w16.cell? ⟨gb161, 0, none⟩ = some (.int .i64 a1_0) := (blk_cell BK161.out 0).trans rfl; have hcz18_1 : w16.cell? ⟨gb161, 1, none⟩ = some (.string a1_1) := (blk_cell BK161.out 1).trans rfl; have hcz18_2 : w16.cell? ⟨gb161, 2, none⟩ = some (.string a1_2) := (blk_cell BK161.out 2).trans rfl; have hcz18_3 : w16.cell? ⟨gb161, 3, none⟩ = some (.string a1_3) := (blk_cell BK161.out 3).trans rfl; have hfz18_0 := blk_frozen BK161.out 0; have hfz18_1 := blk_frozen BK161.out 1; have hfz18_2 := blk_frozen BK161.out 2; have hfz18_3 := blk_frozen BK161.out 3) | (go_at_call 45; (with_reducible refine (spec_l03Name.calls a1_1 true _ A9.out).mono ?_); rintro e w' ⟨rfl, ⟨nd, rfl⟩⟩))
      go_meet
      case rel => exact ⟨_, (false), (by first | rfl | (simp; done) | (simp [*]; done) | (generalize ByteArray.toList a1_2 = q_; cases q_ <;> first | rfl | (simp; done))), H', ⟨by first | omega | exact Nat.le_refl _⟩, ⟨bk BK160⟩, ⟨bk BK161⟩, ⟨bk BK162⟩, ⟨hS⟩⟩
     rw [if_neg c12] at H
     have c12b0 : (a1_0 == 1) = false := beq_eq_false_iff_ne.mpr c12
     have c12b1 : (a1_0 != 1) = true := bne_iff_ne.mpr c12
     have H' := AM H
     clear H
     have hnb19 := NB160_161.out
     have hnc19 := NB161_160.out
     have hnb20 := NB160_162.out
     have hnc20 := NB162_160.out
     have hcz21_0 : w6.cell? ⟨gb160, 0, none⟩ = some (.slice A0_0 l0_0.length c0_0) := (blk_cell BK160.out 0).trans rfl
     have hfz21_0 := blk_frozen BK160.out 0
     go_wp2_with (first | ((with_reducible refine gate_callee (f := 41) rfl ?_); refine goesL_ (some 10) rfl rfl Try.func41 (by kernel_rfl) rfl #[.agg #[.slice A0_0 l0_0.length c0_0]] rfl (by (try simp only [List.map_toArray, List.map_cons, List.map_nil]); first | done | rfl) ?_; (with_reducible refine (spec_DiskOk.calls k _ _ l0_0 true _ ?side1 ?side2 A7.out).mono ?_); (case side1 => repeat (first | exact (Kd.C_below HR0_0.out HB.out) | (with_reducible refine Kd.C_alloc ?_ _) | (with_reducible refine Kd.C_drewN ?_ _) | (with_reducible refine Kd.C_drew ?_))); (case side2 => exact HC0_0.out); rintro e w22 ⟨rfl, hb⟩; refine ⟨_, rfl, ?_⟩; have n0_ := AM (blk_below (g := gb160) (o := .cells #[.slice A0_0 l0_0.length c0_0] 30 (0, 0)) (bk BK160) hb); have n1_ := AM (blk_below (g := gb161) (o := .cells #[.int .i64 a1_0, .string a1_1, .string a1_2, .string a1_3] 41 (0, 0)) (bk BK161) hb); have n2_ := AM (blk_below (g := gb162) (o := .cells #[.slice none 0 0] 30 (0, 0)) (bk BK162) hb); have n3_ := AM (below_step (hS) hb); clear BK160; clear BK161; clear BK162; clear HB; have BK160 := n0_; have BK161 := n1_; have BK162 := n2_; have HB := n3_; clear n0_ n1_ n2_ n3_; (try clear hb); have hnb23 := NB161_162.out; have hnc23 := NB162_161.out; have hcz24_0 : w22.cell? ⟨gb161, 0, none⟩ = some (.int .i64 a1_0) := (blk_cell BK161.out 0).trans rfl; have hcz24_1 : w22.cell? ⟨gb161, 1, none⟩ = some (.string a1_1) := (blk_cell BK161.out 1).trans rfl; have hcz24_2 : w22.cell? ⟨gb161, 2, none⟩ = some (.string a1_2) := (blk_cell BK161.out 2).trans rfl; have hcz24_3 : w22.cell? ⟨gb161, 3, none⟩ = some (.string a1_3) := (blk_cell BK161.out 3).trans rfl; have hfz24_0 := blk_frozen BK161.out 0; have hfz24_1 := blk_frozen BK161.out 1; have hfz24_2 := blk_frozen BK161.out 2; have hfz24_3 := blk_frozen BK161.out 3) | (go_at_call 45; (with_reducible refine (spec_l03Name.calls a1_1 true _ A9.out).mono ?_); rintro e w' ⟨rfl, ⟨nd, rfl⟩⟩))
     go_meet
     case rel => exact ⟨_, ((a1_2.toList != ([] : List UInt8))), (by first | rfl | (simp; done) | (simp [*]; done) | (generalize ByteArray.toList a1_2 = q_; cases q_ <;> first | rfl | (simp; done))), H', ⟨by first | omega | exact Nat.le_refl _⟩, ⟨bk BK160⟩, ⟨bk BK161⟩, ⟨bk BK162⟩, ⟨hS⟩⟩
    rw [if_neg c11] at H
    have c11b0 : (a1_0 == 3) = false := beq_eq_false_iff_ne.mpr c11
    have c11b1 : (a1_0 != 3) = true := bne_iff_ne.mpr c11
    (first | rw [c11b0] | (simp only [i64_w, i32_w]; rw [c11b0]) | rw [c11b1] | skip)
    by_cases c25 : a1_3.toList = ([] : List UInt8)
    ·rw [if_pos c25] at H
     have c25b0 : (a1_3.toList == ([] : List UInt8)) = true := beq_iff_eq.mpr c25
     have c25b1 : (a1_3.toList != ([] : List UInt8)) = false := bne_eq_false_iff_eq.mpr c25
     clear c25
     by_cases c26 : a1_0 = 1
     ·rw [if_pos c26] at H
      have c26b0 : (a1_0 == 1) = true := beq_iff_eq.mpr c26
      have c26b1 : (a1_0 != 1) = false := bne_eq_false_iff_eq.mpr c26
      clear c26
      have H' := AM H
      clear H
      have hnb27 := NB160_161.out
      have hnc27 := NB161_160.out
      have hnb28 := NB160_162.out
      have hnc28 := NB162_160.out
      have hcz29_0 : w6.cell? ⟨gb160, 0, none⟩ = some (.slice A0_0 l0_0.length c0_0) := (blk_cell BK160.out 0).trans rfl
      have hfz29_0 := blk_frozen BK160.out 0
      go_wp2_with (first | ((with_reducible refine gate_callee (f := 41) rfl ?_); refine goesL_ (some 10) rfl rfl Try.func41 (by kernel_rfl) rfl #[.agg #[.slice A0_0 l0_0.length c0_0]] rfl (by (try simp only [List.map_toArray, List.map_cons, List.map_nil]); first | done | rfl) ?_; (with_reducible refine (spec_DiskOk.calls k _ _ l0_0 true _ ?side1 ?side2 A7.out).mono ?_); (case side1 => repeat (first | exact (Kd.C_below HR0_0.out HB.out) | (with_reducible refine Kd.C_alloc ?_ _) | (with_reducible refine Kd.C_drewN ?_ _) | (with_reducible refine Kd.C_drew ?_))); (case side2 => exact HC0_0.out); rintro e w30 ⟨rfl, hb⟩; refine ⟨_, rfl, ?_⟩; have n0_ := AM (blk_below (g := gb160) (o := .cells #[.slice A0_0 l0_0.length c0_0] 30 (0, 0)) (bk BK160) hb); have n1_ := AM (blk_below (g := gb161) (o := .cells #[.int .i64 a1_0, .string a1_1, .string a1_2, .string a1_3] 41 (0, 0)) (bk BK161) hb); have n2_ := AM (blk_below (g := gb162) (o := .cells #[.slice none 0 0] 30 (0, 0)) (bk BK162) hb); have n3_ := AM (below_step (hS) hb); clear BK160; clear BK161; clear BK162; clear HB; have BK160 := n0_; have BK161 := n1_; have BK162 := n2_; have HB := n3_; clear n0_ n1_ n2_ n3_; (try clear hb); have hnb31 := NB161_162.out; have hnc31 := NB162_161.out; have hcz32_0 : w30.cell? ⟨gb161, 0, none⟩ = some (.int .i64 a1_0) := (blk_cell BK161.out 0).trans rfl; have hcz32_1 : w30.cell? ⟨gb161, 1, none⟩ = some (.string a1_1) := (blk_cell BK161.out 1).trans rfl; have hcz32_2 : w30.cell? ⟨gb161, 2, none⟩ = some (.string a1_2) := (blk_cell BK161.out 2).trans rfl; have hcz32_3 : w30.cell? ⟨gb161, 3, none⟩ = some (.string a1_3) := (blk_cell BK161.out 3).trans rfl; have hfz32_0 := blk_frozen BK161.out 0; have hfz32_1 := blk_frozen BK161.out 1; have hfz32_2 := blk_frozen BK161.out 2; have hfz32_3 := blk_frozen BK161.out 3) | (go_at_call 45; (with_reducible refine (spec_l03Name.calls a1_1 true _ A9.out).mono ?_); rintro e w' ⟨rfl, ⟨nd, rfl⟩⟩))
      go_meet
      case rel => exact ⟨_, (false), (by first | rfl | (simp; done) | (simp [*]; done) | (generalize ByteArray.toList a1_2 = q_; cases q_ <;> first | rfl | (simp; done))), H', ⟨by first | omega | exact Nat.le_refl _⟩, ⟨bk BK160⟩, ⟨bk BK161⟩, ⟨bk BK162⟩, ⟨hS⟩⟩
     rw [if_neg c26] at H
     have c26b0 : (a1_0 == 1) = false := beq_eq_false_iff_ne.mpr c26
     have c26b1 : (a1_0 != 1) = true := bne_iff_ne.mpr c26
     have H' := AM H
     clear H
     have hnb33 := NB160_161.out
     have hnc33 := NB161_160.out
     have hnb34 := NB160_162.out
     have hnc34 := NB162_160.out
     have hcz35_0 : w6.cell? ⟨gb160, 0, none⟩ = some (.slice A0_0 l0_0.length c0_0) := (blk_cell BK160.out 0).trans rfl
     have hfz35_0 := blk_frozen BK160.out 0
     go_wp2_with (first | ((with_reducible refine gate_callee (f := 41) rfl ?_); refine goesL_ (some 10) rfl rfl Try.func41 (by kernel_rfl) rfl #[.agg #[.slice A0_0 l0_0.length c0_0]] rfl (by (try simp only [List.map_toArray, List.map_cons, List.map_nil]); first | done | rfl) ?_; (with_reducible refine (spec_DiskOk.calls k _ _ l0_0 true _ ?side1 ?side2 A7.out).mono ?_); (case side1 => repeat (first | exact (Kd.C_below HR0_0.out HB.out) | (with_reducible refine Kd.C_alloc ?_ _) | (with_reducible refine Kd.C_drewN ?_ _) | (with_reducible refine Kd.C_drew ?_))); (case side2 => exact HC0_0.out); rintro e w36 ⟨rfl, hb⟩; refine ⟨_, rfl, ?_⟩; have n0_ := AM (blk_below (g := gb160) (o := .cells #[.slice A0_0 l0_0.length c0_0] 30 (0, 0)) (bk BK160) hb); have n1_ := AM (blk_below (g := gb161) (o := .cells #[.int .i64 a1_0, .string a1_1, .string a1_2, .string a1_3] 41 (0, 0)) (bk BK161) hb); have n2_ := AM (blk_below (g := gb162) (o := .cells #[.slice none 0 0] 30 (0, 0)) (bk BK162) hb); have n3_ := AM (below_step (hS) hb); clear BK160; clear BK161; clear BK162; clear HB; have BK160 := n0_; have BK161 := n1_; have BK162 := n2_; have HB := n3_; clear n0_ n1_ n2_ n3_; (try clear hb); have hnb37 := NB161_162.out; have hnc37 := NB162_161.out; have hcz38_0 : w36.cell? ⟨gb161, 0, none⟩ = some (.int .i64 a1_0) := (blk_cell BK161.out 0).trans rfl; have hcz38_1 : w36.cell? ⟨gb161, 1, none⟩ = some (.string a1_1) := (blk_cell BK161.out 1).trans rfl; have hcz38_2 : w36.cell? ⟨gb161, 2, none⟩ = some (.string a1_2) := (blk_cell BK161.out 2).trans rfl; have hcz38_3 : w36.cell? ⟨gb161, 3, none⟩ = some (.string a1_3) := (blk_cell BK161.out 3).trans rfl; have hfz38_0 := blk_frozen BK161.out 0; have hfz38_1 := blk_frozen BK161.out 1; have hfz38_2 := blk_frozen BK161.out 2; have hfz38_3 := blk_frozen BK161.out 3) | (go_at_call 45; (with_reducible refine (spec_l03Name.calls a1_1 true _ A9.out).mono ?_); rintro e w' ⟨rfl, ⟨nd, rfl⟩⟩))
     go_meet
     case rel => exact ⟨_, ((a1_2.toList != ([] : List UInt8))), (by first | rfl | (simp; done) | (simp [*]; done) | (generalize ByteArray.toList a1_2 = q_; cases q_ <;> first | rfl | (simp; done))), H', ⟨by first | omega | exact Nat.le_refl _⟩, ⟨bk BK160⟩, ⟨bk BK161⟩, ⟨bk BK162⟩, ⟨hS⟩⟩
    rw [if_neg c25] at H
    have c25b0 : (a1_3.toList == ([] : List UInt8)) = false := beq_eq_false_iff_ne.mpr c25
    have c25b1 : (a1_3.toList != ([] : List UInt8)) = true := bne_iff_ne.mpr c25
    have H' := AM H
    clear H
    have hnb39 := NB160_161.out
    have hnc39 := NB161_160.out
    have hnb40 := NB160_162.out
    have hnc40 := NB162_160.out
    have hcz41_0 : w6.cell? ⟨gb160, 0, none⟩ = some (.slice A0_0 l0_0.length c0_0) := (blk_cell BK160.out 0).trans rfl
    have hfz41_0 := blk_frozen BK160.out 0
    go_wp2_with (first | ((with_reducible refine gate_callee (f := 41) rfl ?_); refine goesL_ (some 10) rfl rfl Try.func41 (by kernel_rfl) rfl #[.agg #[.slice A0_0 l0_0.length c0_0]] rfl (by (try simp only [List.map_toArray, List.map_cons, List.map_nil]); first | done | rfl) ?_; (with_reducible refine (spec_DiskOk.calls k _ _ l0_0 true _ ?side1 ?side2 A7.out).mono ?_); (case side1 => repeat (first | exact (Kd.C_below HR0_0.out HB.out) | (with_reducible refine Kd.C_alloc ?_ _) | (with_reducible refine Kd.C_drewN ?_ _) | (with_reducible refine Kd.C_drew ?_))); (case side2 => exact HC0_0.out); rintro e w42 ⟨rfl, hb⟩; refine ⟨_, rfl, ?_⟩; have n0_ := AM (blk_below (g := gb160) (o := .cells #[.slice A0_0 l0_0.length c0_0] 30 (0, 0)) (bk BK160) hb); have n1_ := AM (blk_below (g := gb161) (o := .cells #[.int .i64 a1_0, .string a1_1, .string a1_2, .string a1_3] 41 (0, 0)) (bk BK161) hb); have n2_ := AM (blk_below (g := gb162) (o := .cells #[.slice none 0 0] 30 (0, 0)) (bk BK162) hb); have n3_ := AM (below_step (hS) hb); clear BK160; clear BK161; clear BK162; clear HB; have BK160 := n0_; have BK161 := n1_; have BK162 := n2_; have HB := n3_; clear n0_ n1_ n2_ n3_; (try clear hb); have hnb43 := NB161_162.out; have hnc43 := NB162_161.out; have hcz44_0 : w42.cell? ⟨gb161, 0, none⟩ = some (.int .i64 a1_0) := (blk_cell BK161.out 0).trans rfl; have hcz44_1 : w42.cell? ⟨gb161, 1, none⟩ = some (.string a1_1) := (blk_cell BK161.out 1).trans rfl; have hcz44_2 : w42.cell? ⟨gb161, 2, none⟩ = some (.string a1_2) := (blk_cell BK161.out 2).trans rfl; have hcz44_3 : w42.cell? ⟨gb161, 3, none⟩ = some (.string a1_3) := (blk_cell BK161.out 3).trans rfl; have hfz44_0 := blk_frozen BK161.out 0; have hfz44_1 := blk_frozen BK161.out 1; have hfz44_2 := blk_frozen BK161.out 2; have hfz44_3 := blk_frozen BK161.out 3) | (go_at_call 45; (with_reducible refine (spec_l03Name.calls a1_1 true _ A9.out).mono ?_); rintro e w' ⟨rfl, ⟨nd, rfl⟩⟩))
    go_meet
    case rel => exact ⟨_, (true), (by first | rfl | (simp; done) | (simp [*]; done) | (generalize ByteArray.toList a1_2 = q_; cases q_ <;> first | rfl | (simp; done))), H', ⟨by first | omega | exact Nat.le_refl _⟩, ⟨bk BK160⟩, ⟨bk BK161⟩, ⟨bk BK162⟩, ⟨hS⟩⟩
   replace c10 := Bool.eq_false_iff.mpr c10
   subst c10
   have H1 : (spec_DoAct.j0 k true l0_0 a1_0 a1_1 a1_2 a1_3) = some (r1, r2) := by rw [if_neg (show ¬ (false = true) by decide)] at H; exact H
   clear H
   have H := H1
   clear H1
   have H' := AM H
   clear H
   have hnb45 := NB160_161.out
   have hnc45 := NB161_160.out
   have hnb46 := NB160_162.out
   have hnc46 := NB162_160.out
   have hcz47_0 : w6.cell? ⟨gb160, 0, none⟩ = some (.slice A0_0 l0_0.length c0_0) := (blk_cell BK160.out 0).trans rfl
   have hfz47_0 := blk_frozen BK160.out 0
   go_wp2_with (first | ((with_reducible refine gate_callee (f := 41) rfl ?_); refine goesL_ (some 10) rfl rfl Try.func41 (by kernel_rfl) rfl #[.agg #[.slice A0_0 l0_0.length c0_0]] rfl (by (try simp only [List.map_toArray, List.map_cons, List.map_nil]); first | done | rfl) ?_; (with_reducible refine (spec_DiskOk.calls k _ _ l0_0 true _ ?side1 ?side2 A7.out).mono ?_); (case side1 => repeat (first | exact (Kd.C_below HR0_0.out HB.out) | (with_reducible refine Kd.C_alloc ?_ _) | (with_reducible refine Kd.C_drewN ?_ _) | (with_reducible refine Kd.C_drew ?_))); (case side2 => exact HC0_0.out); rintro e w48 ⟨rfl, hb⟩; refine ⟨_, rfl, ?_⟩; have n0_ := AM (blk_below (g := gb160) (o := .cells #[.slice A0_0 l0_0.length c0_0] 30 (0, 0)) (bk BK160) hb); have n1_ := AM (blk_below (g := gb161) (o := .cells #[.int .i64 a1_0, .string a1_1, .string a1_2, .string a1_3] 41 (0, 0)) (bk BK161) hb); have n2_ := AM (blk_below (g := gb162) (o := .cells #[.slice none 0 0] 30 (0, 0)) (bk BK162) hb); have n3_ := AM (below_step (hS) hb); clear BK160; clear BK161; clear BK162; clear HB; have BK160 := n0_; have BK161 := n1_; have BK162 := n2_; have HB := n3_; clear n0_ n1_ n2_ n3_; (try clear hb); have hnb49 := NB161_162.out; have hnc49 := NB162_161.out; have hcz50_0 : w48.cell? ⟨gb161, 0, none⟩ = some (.int .i64 a1_0) := (blk_cell BK161.out 0).trans rfl; have hcz50_1 : w48.cell? ⟨gb161, 1, none⟩ = some (.string a1_1) := (blk_cell BK161.out 1).trans rfl; have hcz50_2 : w48.cell? ⟨gb161, 2, none⟩ = some (.string a1_2) := (blk_cell BK161.out 2).trans rfl; have hcz50_3 : w48.cell? ⟨gb161, 3, none⟩ = some (.string a1_3) := (blk_cell BK161.out 3).trans rfl; have hfz50_0 := blk_frozen BK161.out 0; have hfz50_1 := blk_frozen BK161.out 1; have hfz50_2 := blk_frozen BK161.out 2; have hfz50_3 := blk_frozen BK161.out 3) | (go_at_call 45; (with_reducible refine (spec_l03Name.calls a1_1 false _ A9.out).mono ?_); rintro e w' ⟨rfl, ⟨nd, rfl⟩⟩))
   go_meet
   case rel => exact ⟨_, (true), (by first | rfl | (simp; done) | (simp [*]; done) | (generalize ByteArray.toList a1_2 = q_; cases q_ <;> first | rfl | (simp; done))), H', ⟨by first | omega | exact Nat.le_refl _⟩, ⟨bk BK160⟩, ⟨bk BK161⟩, ⟨bk BK162⟩, ⟨hS⟩⟩
  replace c8 := Bool.eq_false_iff.mpr c8
  subst c8
  have H1 : (spec_DoAct.j0 k true l0_0 a1_0 a1_1 a1_2 a1_3) = some (r1, r2) := by rw [if_neg (show ¬ (false = true) by decide)] at H; exact H
  clear H
  have H := H1
  clear H1
  have H' := AM H
  clear H
  have hnb51 := NB160_161.out
  have hnc51 := NB161_160.out
  have hnb52 := NB160_162.out
  have hnc52 := NB162_160.out
  have hcz53_0 : w6.cell? ⟨gb160, 0, none⟩ = some (.slice A0_0 l0_0.length c0_0) := (blk_cell BK160.out 0).trans rfl
  have hfz53_0 := blk_frozen BK160.out 0
  go_wp2_with (first | ((with_reducible refine gate_callee (f := 41) rfl ?_); refine goesL_ (some 10) rfl rfl Try.func41 (by kernel_rfl) rfl #[.agg #[.slice A0_0 l0_0.length c0_0]] rfl (by (try simp only [List.map_toArray, List.map_cons, List.map_nil]); first | done | rfl) ?_; (with_reducible refine (spec_DiskOk.calls k _ _ l0_0 false _ ?side1 ?side2 A7.out).mono ?_); (case side1 => repeat (first | exact (Kd.C_below HR0_0.out HB.out) | (with_reducible refine Kd.C_alloc ?_ _) | (with_reducible refine Kd.C_drewN ?_ _) | (with_reducible refine Kd.C_drew ?_))); (case side2 => exact HC0_0.out); rintro e w54 ⟨rfl, hb⟩; refine ⟨_, rfl, ?_⟩; have n0_ := AM (blk_below (g := gb160) (o := .cells #[.slice A0_0 l0_0.length c0_0] 30 (0, 0)) (bk BK160) hb); have n1_ := AM (blk_below (g := gb161) (o := .cells #[.int .i64 a1_0, .string a1_1, .string a1_2, .string a1_3] 41 (0, 0)) (bk BK161) hb); have n2_ := AM (blk_below (g := gb162) (o := .cells #[.slice none 0 0] 30 (0, 0)) (bk BK162) hb); have n3_ := AM (below_step (hS) hb); clear BK160; clear BK161; clear BK162; clear HB; have BK160 := n0_; have BK161 := n1_; have BK162 := n2_; have HB := n3_; clear n0_ n1_ n2_ n3_; (try clear hb)))
  go_meet
  case rel => exact ⟨_, (true), (by first | rfl | (simp; done) | (simp [*]; done) | (generalize ByteArray.toList a1_2 = q_; cases q_ <;> first | rfl | (simp; done))), H', ⟨by first | omega | exact Nat.le_refl _⟩, ⟨bk BK160⟩, ⟨bk BK161⟩, ⟨bk BK162⟩, ⟨hS⟩⟩
 case rest =>
  clear HC3
  obtain ⟨kq, x37_2, rfl, HA, HJ2, BK160, BK161, BK162, HB⟩ := hcut
  cases kq with
  | zero => exact absurd HA.out (by simp [spec_DoAct.j0])
  | succ kj2 =>
   have H := HA.out
   clear HA
   simp only [spec_DoAct.j0] at H
   by_cases c55 : x37_2 = true
   ·subst c55
    have H1 : (some (([] : List (S67)), false)) = some (r1, r2) := by rw [if_pos rfl] at H; exact H
    clear H
    have H := H1
    clear H1
    simp only [Option.some.injEq, Prod.mk.injEq] at H
    obtain ⟨rfl, rfl⟩ := H
    have hnb56 := NB162_160.out
    have hnc56 := NB160_162.out
    have hnb57 := NB162_161.out
    have hnc57 := NB161_162.out
    have hcz58_0 : wc.cell? ⟨gb162, 0, none⟩ = some (.slice none 0 0) := (blk_cell BK162.out 0).trans rfl
    have hfz58_0 := blk_frozen BK162.out 0
    go_wp2
    refine bodyPost_ret (results_ct rfl _ _ gb162 30 #[.slice none 0 0] (0, 0) _ rfl (by (with_reducible repeat (first | refine blk_drewN ?_ _ | refine blk_drew ?_ | refine blk_alloc ?_ _)); refine blk_put (cs := #[.slice none 0 0]) ?_ 0 _ rfl; (with_reducible repeat (first | refine blk_drewN ?_ _ | refine blk_drew ?_ | refine blk_alloc ?_ _)); exact BK162.out) Try.underlying30 rfl (by kernel_rfl)) rfl ?_
    exact ⟨_, by first | rfl | (simp [errW_none, errW_some] <;> rfl) | (simp [*, errW_none, errW_some] <;> rfl), by first | exact Kd.R_nil _ _ _ _ _ | exact Kd.N_nil _ _ _ _ _ | exact Kd.V_nil _ _ _ _ _ | exact Kd.Q_nil _ _ _ _ _ | exact Kd.S_nil _ _ _ _ _, hS⟩
   replace c55 := Bool.eq_false_iff.mpr c55
   subst c55
   have H1 : ((spec_l03At.f kj2 l0_0 a1_1).bind fun t165 => (if t165 ≥ 0 then (if 0 ≤ t165 then (if t165 < (l0_0.length : Int) then (spec_DoAct.j1 kj2 t165 l0_0 a1_0 a1_1 a1_2 a1_3 ((rd_T67 l0_0 t165).f0) ((rd_T67 l0_0 t165).f1) ((rd_T67 l0_0 t165).f2)) else (none)) else (none)) else (spec_DoAct.j1 kj2 t165 l0_0 a1_0 a1_1 a1_2 a1_3 a1_1 (⟨#[]⟩ : ByteArray) 0))) = some (r1, r2) := by rw [if_neg (show ¬ (false = true) by decide)] at H; exact H
   clear H
   have H := H1
   clear H1
   replace H := bm H
   obtain ⟨t165, A590, H⟩ := H
   replace H : (if t165 ≥ 0 then (if 0 ≤ t165 then (if t165 < (l0_0.length : Int) then (spec_DoAct.j1 kj2 t165 l0_0 a1_0 a1_1 a1_2 a1_3 ((rd_T67 l0_0 t165).f0) ((rd_T67 l0_0 t165).f1) ((rd_T67 l0_0 t165).f2)) else (none)) else (none)) else (spec_DoAct.j1 kj2 t165 l0_0 a1_0 a1_1 a1_2 a1_3 a1_1 (⟨#[]⟩ : ByteArray) 0)) = some (r1, r2) := H
   have A59 := AM A590
   clear A590
   have HC60 := AM H
   clear H
   have hnb61 := NB160_161.out
   have hnc61 := NB161_160.out
   have hnb62 := NB160_162.out
   have hnc62 := NB162_160.out
   have hcz63_0 : wc.cell? ⟨gb160, 0, none⟩ = some (.slice A0_0 l0_0.length c0_0) := (blk_cell BK160.out 0).trans rfl
   have hfz63_0 := blk_frozen BK160.out 0
   have hnb64 := NB161_162.out
   have hnc64 := NB162_161.out
   have hcz65_0 : wc.cell? ⟨gb161, 0, none⟩ = some (.int .i64 a1_0) := (blk_cell BK161.out 0).trans rfl
   have hcz65_1 : wc.cell? ⟨gb161, 1, none⟩ = some (.string a1_1) := (blk_cell BK161.out 1).trans rfl
   have hcz65_2 : wc.cell? ⟨gb161, 2, none⟩ = some (.string a1_2) := (blk_cell BK161.out 2).trans rfl
   have hcz65_3 : wc.cell? ⟨gb161, 3, none⟩ = some (.string a1_3) := (blk_cell BK161.out 3).trans rfl
   have hfz65_0 := blk_frozen BK161.out 0
   have hfz65_1 := blk_frozen BK161.out 1
   have hfz65_2 := blk_frozen BK161.out 2
   have hfz65_3 := blk_frozen BK161.out 3
   go_upto_if 47 with (first | ((with_reducible refine gate_callee (f := 37) rfl ?_); refine goesL_ (some 42) rfl rfl Try.func37 (by kernel_rfl) rfl #[.agg #[.slice A0_0 l0_0.length c0_0], .string a1_1] rfl (by (try simp only [List.map_toArray, List.map_cons, List.map_nil]); first | done | rfl) ?_; (with_reducible refine (spec_l03At.calls kj2 _ _ l0_0 a1_1 t165 _ ?side1 ?side2 A59.out).mono ?_); (case side1 => repeat (first | exact (Kd.C_below HR0_0.out HB.out) | (with_reducible refine Kd.C_alloc ?_ _) | (with_reducible refine Kd.C_drewN ?_ _) | (with_reducible refine Kd.C_drew ?_))); (case side2 => exact HC0_0.out); rintro e w66 ⟨rfl, hb⟩; refine ⟨_, rfl, ?_⟩; have n0_ := AM (blk_below (g := gb160) (o := .cells #[.slice A0_0 l0_0.length c0_0] 30 (0, 0)) (bk BK160) hb); have n1_ := AM (blk_below (g := gb161) (o := .cells #[.int .i64 a1_0, .string a1_1, .string a1_2, .string a1_3] 41 (0, 0)) (bk BK161) hb); have n2_ := AM (blk_below (g := gb162) (o := .cells #[.slice none 0 0] 30 (0, 0)) (bk BK162) hb); have n3_ := AM (below_step (hS) hb); clear BK160; clear BK161; clear BK162; clear HB; have BK160 := n0_; have BK161 := n1_; have BK162 := n2_; have HB := n3_; clear n0_ n1_ n2_ n3_; (try clear hb); have hcz67_0 : w66.cell? ⟨gb161, 0, none⟩ = some (.int .i64 a1_0) := (blk_cell BK161.out 0).trans rfl; have hcz67_1 : w66.cell? ⟨gb161, 1, none⟩ = some (.string a1_1) := (blk_cell BK161.out 1).trans rfl; have hcz67_2 : w66.cell? ⟨gb161, 2, none⟩ = some (.string a1_2) := (blk_cell BK161.out 2).trans rfl; have hcz67_3 : w66.cell? ⟨gb161, 3, none⟩ = some (.string a1_3) := (blk_cell BK161.out 3).trans rfl; have hfz67_0 := blk_frozen BK161.out 0; have hfz67_1 := blk_frozen BK161.out 1; have hfz67_2 := blk_frozen BK161.out 2; have hfz67_3 := blk_frozen BK161.out 3) | ((with_reducible refine gate_dst (N := 7) rfl ?_); refine box_event ?hg (N := 7) ?hd (cs := #[.string (⟨#[]⟩ : ByteArray), .string (⟨#[]⟩ : ByteArray), .int .i64 0]) (t := 67) ?hr ?_; (case hd => rfl); (case hg => rfl); (case hr => first | (go_simp; done) | (go_simp; rfl)); intro gb166 hg w68 hbox hb; have n0_ := AM (blk_below (g := gb160) (o := .cells #[.slice A0_0 l0_0.length c0_0] 30 (0, 0)) (bk BK160) hb); have n1_ := AM (blk_below (g := gb161) (o := .cells #[.int .i64 a1_0, .string a1_1, .string a1_2, .string a1_3] 41 (0, 0)) (bk BK161) hb); have n2_ := AM (blk_below (g := gb162) (o := .cells #[.slice none 0 0] 30 (0, 0)) (bk BK162) hb); have n3_ := AM (below_step (hS) hb); have n4_ := AM (hbox); have n5_ := AM ((by rw [hg]; exact (below_size (hS)) : w.heap.size ≤ gb166)); have n6_ := AM ((by rw [hg]; exact (below_size (hS)) : w.heap.size ≤ gb166)); have n7_ := AM ((by rw [hg]; exact Nat.ne_of_lt (blk_lt (g := gb160) (o := .cells #[.slice A0_0 l0_0.length c0_0] 30 (0, 0)) (bk BK160)) : gb160 ≠ gb166)); have n8_ := AM ((by rw [hg]; exact Nat.ne_of_gt (blk_lt (g := gb160) (o := .cells #[.slice A0_0 l0_0.length c0_0] 30 (0, 0)) (bk BK160)) : gb166 ≠ gb160)); have n9_ := AM ((by rw [hg]; exact Nat.ne_of_lt (blk_lt (g := gb161) (o := .cells #[.int .i64 a1_0, .string a1_1, .string a1_2, .string a1_3] 41 (0, 0)) (bk BK161)) : gb161 ≠ gb166)); have n10_ := AM ((by rw [hg]; exact Nat.ne_of_gt (blk_lt (g := gb161) (o := .cells #[.int .i64 a1_0, .string a1_1, .string a1_2, .string a1_3] 41 (0, 0)) (bk BK161)) : gb166 ≠ gb161)); have n11_ := AM ((by rw [hg]; exact Nat.ne_of_lt (blk_lt (g := gb162) (o := .cells #[.slice none 0 0] 30 (0, 0)) (bk BK162)) : gb162 ≠ gb166)); have n12_ := AM ((by rw [hg]; exact Nat.ne_of_gt (blk_lt (g := gb162) (o := .cells #[.slice none 0 0] 30 (0, 0)) (bk BK162)) : gb166 ≠ gb162)); clear BK160; clear BK161; clear BK162; clear HB; have BK160 := n0_; have BK161 := n1_; have BK162 := n2_; have HB := n3_; have BK166 := n4_; have GW166 := n5_; have GE166 := n6_; have NB160_166 := n7_; have NB166_160 := n8_; have NB161_166 := n9_; have NB166_161 := n10_; have NB162_166 := n11_; have NB166_162 := n12_; clear n0_ n1_ n2_ n3_ n4_ n5_ n6_ n7_ n8_ n9_ n10_ n11_ n12_; clear hb hbox hg; have hnb69 := NB166_160.out; have hnc69 := NB160_166.out; have hnb70 := NB166_161.out; have hnc70 := NB161_166.out; have hnb71 := NB166_162.out; have hnc71 := NB162_166.out; have hcz72_0 : w68.cell? ⟨gb166, 0, none⟩ = some (.string (⟨#[]⟩ : ByteArray)) := (blk_cell BK166.out 0).trans rfl; have hcz72_1 : w68.cell? ⟨gb166, 1, none⟩ = some (.string (⟨#[]⟩ : ByteArray)) := (blk_cell BK166.out 1).trans rfl; have hcz72_2 : w68.cell? ⟨gb166, 2, none⟩ = some (.int .i64 0) := (blk_cell BK166.out 2).trans rfl; have hfz72_0 := blk_frozen BK166.out 0; have hfz72_1 := blk_frozen BK166.out 1; have hfz72_2 := blk_frozen BK166.out 2))
   (try simp only [Act.put, qT, q0, qS])
   go_cut [] (fun wc => ∃ (kq : Nat) (x167000_59 : ByteArray) (x167001_59 : ByteArray) (x167002_59 : Int), Aside0 (spec_DoAct.j1 kq t165 l0_0 a1_0 a1_1 a1_2 a1_3 x167000_59 x167001_59 x167002_59 = some (r1, r2)) ∧ Aside0 (kq ≤ kj2) ∧ Aside0 (wc.heap[gb160]? = some (.cells #[(.slice A0_0 l0_0.length c0_0)] 30 (0, 0))) ∧ Aside0 (wc.heap[gb161]? = some (.cells #[.int .i64 a1_0, .string a1_1, .string a1_2, .string a1_3] 41 (0, 0))) ∧ Aside0 (wc.heap[gb162]? = some (.cells #[(.slice none 0 0)] 30 (0, 0))) ∧ Aside0 (wc.heap[gb166]? = some (.cells #[.string x167000_59, .string x167001_59, .int .i64 x167002_59] 67 (0, 0))) ∧ Aside0 (Below w.heap.size w wc))
   case first =>
    have H := HC60.out
    clear HC60
    by_cases c73 : t165 ≥ 0
    ·rw [if_pos c73] at H
     have c73b0 : decide (0 ≤ t165) = true := decide_eq_true c73
     clear c73
     (first | rw [c73b0] | (simp only [i64_w, i32_w]; rw [c73b0]) | rw [c73b1] | skip)
     by_cases c74 : 0 ≤ t165
     ·rw [if_pos c74] at H
      have c74b0 : decide (0 ≤ t165) = true := decide_eq_true c74
      clear c74
      by_cases c75 : t165 < (l0_0.length : Int)
      ·rw [if_pos c75] at H
       have c75b0 : decide (t165 < (l0_0.length : Int)) = true := decide_eq_true c75
       clear c75
       have H' := AM H
       clear H
       have hnb76 := NB160_161.out
       have hnc76 := NB161_160.out
       have hnb77 := NB160_162.out
       have hnc77 := NB162_160.out
       have hnb78 := NB160_166.out
       have hnc78 := NB166_160.out
       have hcz79_0 : w68.cell? ⟨gb160, 0, none⟩ = some (.slice A0_0 l0_0.length c0_0) := (blk_cell BK160.out 0).trans rfl
       have hfz79_0 := blk_frozen BK160.out 0
       have p167 : 0 ≤ (t165 : Int) := od
       have q167 : t165 < (l0_0.length : Int) := od
       obtain ⟨ad167, e167, hx167_0, hx167_1, hx167_2⟩ := at_T67 HR0_0.out t165 p167 q167
       cases e167
       have hn167_0 : ad167.block ≠ gb166 := Nat.ne_of_lt (Nat.lt_of_lt_of_le (by have := World.block_lt_of_cell? _ _ hx167_0; first | rwa [add_block] at this | exact this) GW166.out)
       have hn167_1 : ad167.block ≠ gb166 := Nat.ne_of_lt (Nat.lt_of_lt_of_le (by have := World.block_lt_of_cell? _ _ hx167_0; first | rwa [add_block] at this | exact this) GW166.out)
       have hn167_2 : ad167.block ≠ gb166 := Nat.ne_of_lt (Nat.lt_of_lt_of_le (by have := World.block_lt_of_cell? _ _ hx167_0; first | rwa [add_block] at this | exact this) GW166.out)
       replace hx167_0 := (HB.out.cell (World.block_lt_of_cell? w _ hx167_0)).trans hx167_0
       replace hx167_1 := (HB.out.cell (World.block_lt_of_cell? w _ hx167_1)).trans hx167_1
       replace hx167_2 := (HB.out.cell (World.block_lt_of_cell? w _ hx167_2)).trans hx167_2
       replace hx167_0 := (cell_far (p := ⟨gb166, 0, none⟩) (by first | (rw [add_block]; exact hn167_0) | (show (Addr.add _ _).block ≠ _; rw [add_block]; exact hn167_0) | exact hn167_0) (.string a1_1)).trans hx167_0
       replace hx167_1 := (cell_far (p := ⟨gb166, 0, none⟩) (by first | (rw [add_block]; exact hn167_0) | (show (Addr.add _ _).block ≠ _; rw [add_block]; exact hn167_0) | exact hn167_0) (.string a1_1)).trans hx167_1
       replace hx167_2 := (cell_far (p := ⟨gb166, 0, none⟩) (by first | (rw [add_block]; exact hn167_0) | (show (Addr.add _ _).block ≠ _; rw [add_block]; exact hn167_0) | exact hn167_0) (.string a1_1)).trans hx167_2
       replace hx167_0 := (cell_far (p := ⟨gb166, 1, none⟩) (by first | (rw [add_block]; exact hn167_1) | (show (Addr.add _ _).block ≠ _; rw [add_block]; exact hn167_1) | exact hn167_1) (.string (⟨#[]⟩ : ByteArray))).trans hx167_0
       replace hx167_1 := (cell_far (p := ⟨gb166, 1, none⟩) (by first | (rw [add_block]; exact hn167_1) | (show (Addr.add _ _).block ≠ _; rw [add_block]; exact hn167_1) | exact hn167_1) (.string (⟨#[]⟩ : ByteArray))).trans hx167_1
       replace hx167_2 := (cell_far (p := ⟨gb166, 1, none⟩) (by first | (rw [add_block]; exact hn167_1) | (show (Addr.add _ _).block ≠ _; rw [add_block]; exact hn167_1) | exact hn167_1) (.string (⟨#[]⟩ : ByteArray))).trans hx167_2
       replace hx167_0 := (cell_far (p := ⟨gb166, 2, none⟩) (by first | (rw [add_block]; exact hn167_2) | (show (Addr.add _ _).block ≠ _; rw [add_block]; exact hn167_2) | exact hn167_2) (.int .i64 0)).trans hx167_0
       replace hx167_1 := (cell_far (p := ⟨gb166, 2, none⟩) (by first | (rw [add_block]; exact hn167_2) | (show (Addr.add _ _).block ≠ _; rw [add_block]; exact hn167_2) | exact hn167_2) (.int .i64 0)).trans hx167_1
       replace hx167_2 := (cell_far (p := ⟨gb166, 2, none⟩) (by first | (rw [add_block]; exact hn167_2) | (show (Addr.add _ _).block ≠ _; rw [add_block]; exact hn167_2) | exact hn167_2) (.int .i64 0)).trans hx167_2
       clear hn167_0
       clear hn167_1
       clear hn167_2
       replace p167 := eq_true p167
       replace q167 := eq_true q167
       have hnb80 := NB166_161.out
       have hnc80 := NB161_166.out
       have hnb81 := NB166_162.out
       have hnc81 := NB162_166.out
       have hcz82_0 : w68.cell? ⟨gb166, 0, none⟩ = some (.string (⟨#[]⟩ : ByteArray)) := (blk_cell BK166.out 0).trans rfl
       have hcz82_1 : w68.cell? ⟨gb166, 1, none⟩ = some (.string (⟨#[]⟩ : ByteArray)) := (blk_cell BK166.out 1).trans rfl
       have hcz82_2 : w68.cell? ⟨gb166, 2, none⟩ = some (.int .i64 0) := (blk_cell BK166.out 2).trans rfl
       have hfz82_0 := blk_frozen BK166.out 0
       have hfz82_1 := blk_frozen BK166.out 1
       have hfz82_2 := blk_frozen BK166.out 2
       go_wp2
       go_meet
       case rel => exact ⟨_, ((rd_T67 l0_0 t165).f0), ((rd_T67 l0_0 t165).f1), ((rd_T67 l0_0 t165).f2), H', ⟨by have := HJ2.out; first | omega | exact Nat.le_refl _⟩, ⟨by (with_reducible repeat (first | refine blk_drewN ?_ _ | refine blk_drew ?_ | refine blk_alloc ?_ _)); refine blk_far ?_ NB160_166.out _; (with_reducible repeat (first | refine blk_drewN ?_ _ | refine blk_drew ?_ | refine blk_alloc ?_ _)); refine blk_far ?_ NB160_166.out _; (with_reducible repeat (first | refine blk_drewN ?_ _ | refine blk_drew ?_ | refine blk_alloc ?_ _)); refine blk_far ?_ NB160_166.out _; (with_reducible repeat (first | refine blk_drewN ?_ _ | refine blk_drew ?_ | refine blk_alloc ?_ _)); refine blk_far ?_ NB160_166.out _; (with_reducible repeat (first | refine blk_drewN ?_ _ | refine blk_drew ?_ | refine blk_alloc ?_ _)); refine blk_far ?_ NB160_166.out _; (with_reducible repeat (first | refine blk_drewN ?_ _ | refine blk_drew ?_ | refine blk_alloc ?_ _)); refine blk_far ?_ NB160_166.out _; (with_reducible repeat (first | refine blk_drewN ?_ _ | refine blk_drew ?_ | refine blk_alloc ?_ _)); exact BK160.out⟩, ⟨by (with_reducible repeat (first | refine blk_drewN ?_ _ | refine blk_drew ?_ | refine blk_alloc ?_ _)); refine blk_far ?_ NB161_166.out _; (with_reducible repeat (first | refine blk_drewN ?_ _ | refine blk_drew ?_ | refine blk_alloc ?_ _)); refine blk_far ?_ NB161_166.out _; (with_reducible repeat (first | refine blk_drewN ?_ _ | refine blk_drew ?_ | refine blk_alloc ?_ _)); refine blk_far ?_ NB161_166.out _; (with_reducible repeat (first | refine blk_drewN ?_ _ | refine blk_drew ?_ | refine blk_alloc ?_ _)); refine blk_far ?_ NB161_166.out _; (with_reducible repeat (first | refine blk_drewN ?_ _ | refine blk_drew ?_ | refine blk_alloc ?_ _)); refine blk_far ?_ NB161_166.out _; (with_reducible repeat (first | refine blk_drewN ?_ _ | refine blk_drew ?_ | refine blk_alloc ?_ _)); refine blk_far ?_ NB161_166.out _; (with_reducible repeat (first | refine blk_drewN ?_ _ | refine blk_drew ?_ | refine blk_alloc ?_ _)); exact BK161.out⟩, ⟨by (with_reducible repeat (first | refine blk_drewN ?_ _ | refine blk_drew ?_ | refine blk_alloc ?_ _)); refine blk_far ?_ NB162_166.out _; (with_reducible repeat (first | refine blk_drewN ?_ _ | refine blk_drew ?_ | refine blk_alloc ?_ _)); refine blk_far ?_ NB162_166.out _; (with_reducible repeat (first | refine blk_drewN ?_ _ | refine blk_drew ?_ | refine blk_alloc ?_ _)); refine blk_far ?_ NB162_166.out _; (with_reducible repeat (first | refine blk_drewN ?_ _ | refine blk_drew ?_ | refine blk_alloc ?_ _)); refine blk_far ?_ NB162_166.out _; (with_reducible repeat (first | refine blk_drewN ?_ _ | refine blk_drew ?_ | refine blk_alloc ?_ _)); refine blk_far ?_ NB162_166.out _; (with_reducible repeat (first | refine blk_drewN ?_ _ | refine blk_drew ?_ | refine blk_alloc ?_ _)); refine blk_far ?_ NB162_166.out _; (with_reducible repeat (first | refine blk_drewN ?_ _ | refine blk_drew ?_ | refine blk_alloc ?_ _)); exact BK162.out⟩, ⟨by (with_reducible repeat (first | refine blk_drewN ?_ _ | refine blk_drew ?_ | refine blk_alloc ?_ _)); refine blk_put (cs := #[.string ((rd_T67 l0_0 t165).f0), .string ((rd_T67 l0_0 t165).f1), .int .i64 0]) ?_ 2 _ rfl; (with_reducible repeat (first | refine blk_drewN ?_ _ | refine blk_drew ?_ | refine blk_alloc ?_ _)); refine blk_put (cs := #[.string ((rd_T67 l0_0 t165).f0), .string (⟨#[]⟩ : ByteArray), .int .i64 0]) ?_ 1 _ rfl; (with_reducible repeat (first | refine blk_drewN ?_ _ | refine blk_drew ?_ | refine blk_alloc ?_ _)); refine blk_put (cs := #[.string a1_1, .string (⟨#[]⟩ : ByteArray), .int .i64 0]) ?_ 0 _ rfl; (with_reducible repeat (first | refine blk_drewN ?_ _ | refine blk_drew ?_ | refine blk_alloc ?_ _)); refine blk_put (cs := #[.string a1_1, .string (⟨#[]⟩ : ByteArray), .int .i64 0]) ?_ 2 _ rfl; (with_reducible repeat (first | refine blk_drewN ?_ _ | refine blk_drew ?_ | refine blk_alloc ?_ _)); refine blk_put (cs := #[.string a1_1, .string (⟨#[]⟩ : ByteArray), .int .i64 0]) ?_ 1 _ rfl; (with_reducible repeat (first | refine blk_drewN ?_ _ | refine blk_drew ?_ | refine blk_alloc ?_ _)); refine blk_put (cs := #[.string (⟨#[]⟩ : ByteArray), .string (⟨#[]⟩ : ByteArray), .int .i64 0]) ?_ 0 _ rfl; (with_reducible repeat (first | refine blk_drewN ?_ _ | refine blk_drew ?_ | refine blk_alloc ?_ _)); exact BK166.out⟩, ⟨hS⟩⟩
      rw [if_neg c75] at H
      exact absurd H (by simp)
     rw [if_neg c74] at H
     exact absurd H (by simp)
    rw [if_neg c73] at H
    have c73b0 : decide (0 ≤ t165) = false := decide_eq_false c73
    clear c73
    (first | rw [c73b0] | (simp only [i64_w, i32_w]; rw [c73b0]) | rw [c73b1] | skip)
    have H' := AM H
    clear H
    go_wp2
    go_meet
    case rel => exact ⟨_, (a1_1), ((⟨#[]⟩ : ByteArray)), (0), H', ⟨by have := HJ2.out; first | omega | exact Nat.le_refl _⟩, ⟨by (with_reducible repeat (first | refine blk_drewN ?_ _ | refine blk_drew ?_ | refine blk_alloc ?_ _)); refine blk_far ?_ NB160_166.out _; (with_reducible repeat (first | refine blk_drewN ?_ _ | refine blk_drew ?_ | refine blk_alloc ?_ _)); refine blk_far ?_ NB160_166.out _; (with_reducible repeat (first | refine blk_drewN ?_ _ | refine blk_drew ?_ | refine blk_alloc ?_ _)); refine blk_far ?_ NB160_166.out _; (with_reducible repeat (first | refine blk_drewN ?_ _ | refine blk_drew ?_ | refine blk_alloc ?_ _)); exact BK160.out⟩, ⟨by (with_reducible repeat (first | refine blk_drewN ?_ _ | refine blk_drew ?_ | refine blk_alloc ?_ _)); refine blk_far ?_ NB161_166.out _; (with_reducible repeat (first | refine blk_drewN ?_ _ | refine blk_drew ?_ | refine blk_alloc ?_ _)); refine blk_far ?_ NB161_166.out _; (with_reducible repeat (first | refine blk_drewN ?_ _ | refine blk_drew ?_ | refine blk_alloc ?_ _)); refine blk_far ?_ NB161_166.out _; (with_reducible repeat (first | refine blk_drewN ?_ _ | refine blk_drew ?_ | refine blk_alloc ?_ _)); exact BK161.out⟩, ⟨by (with_reducible repeat (first | refine blk_drewN ?_ _ | refine blk_drew ?_ | refine blk_alloc ?_ _)); refine blk_far ?_ NB162_166.out _; (with_reducible repeat (first | refine blk_drewN ?_ _ | refine blk_drew ?_ | refine blk_alloc ?_ _)); refine blk_far ?_ NB162_166.out _; (with_reducible repeat (first | refine blk_drewN ?_ _ | refine blk_drew ?_ | refine blk_alloc ?_ _)); refine blk_far ?_ NB162_166.out _; (with_reducible repeat (first | refine blk_drewN ?_ _ | refine blk_drew ?_ | refine blk_alloc ?_ _)); exact BK162.out⟩, ⟨by (with_reducible repeat (first | refine blk_drewN ?_ _ | refine blk_drew ?_ | refine blk_alloc ?_ _)); refine blk_put (cs := #[.string a1_1, .string (⟨#[]⟩ : ByteArray), .int .i64 0]) ?_ 2 _ rfl; (with_reducible repeat (first | refine blk_drewN ?_ _ | refine blk_drew ?_ | refine blk_alloc ?_ _)); refine blk_put (cs := #[.string a1_1, .string (⟨#[]⟩ : ByteArray), .int .i64 0]) ?_ 1 _ rfl; (with_reducible repeat (first | refine blk_drewN ?_ _ | refine blk_drew ?_ | refine blk_alloc ?_ _)); refine blk_put (cs := #[.string (⟨#[]⟩ : ByteArray), .string (⟨#[]⟩ : ByteArray), .int .i64 0]) ?_ 0 _ rfl; (with_reducible repeat (first | refine blk_drewN ?_ _ | refine blk_drew ?_ | refine blk_alloc ?_ _)); exact BK166.out⟩, ⟨hS⟩⟩
   case rest =>
    clear HC60
    obtain ⟨kq, x167000_59, x167001_59, x167002_59, HA, HJ59, BK160, BK161, BK162, BK166, HB⟩ := hcut
    cases kq with
    | zero => exact absurd HA.out (by simp [spec_DoAct.j1])
    | succ kj59 =>
     have H := HA.out
     clear HA
     simp only [spec_DoAct.j1] at H
     by_cases c83 : a1_0 = 1
     ·rw [if_pos c83] at H
      have c83b0 : (a1_0 == 1) = true := beq_iff_eq.mpr c83
      have c83b1 : (a1_0 != 1) = false := bne_eq_false_iff_eq.mpr c83
      clear c83
      by_cases c84 : x167001_59.size + a1_2.size ≤ 9223372036854775807
      ·rw [if_pos c84] at H
       have c84b0 := eq_true c84
       have c84b1 : decide (x167001_59.size + a1_2.size ≤ 9223372036854775807) = true := decide_eq_true c84
       try have c84b2 : (9223372036854775807 < x167001_59.size + a1_2.size) = False := eq_false (Nat.not_lt.2 c84)
       replace H := bm H
       obtain ⟨t169, A850, H⟩ := H
       replace H : ((spec_DiskOk.f kj59 t169).bind fun t172 => (if t172 = true then (some (t169, true)) else (some (([] : List (S67)), false)))) = some (r1, r2) := H
       have A85 := AM A850
       clear A850
       replace H := bm H
       obtain ⟨t172, A860, H⟩ := H
       replace H : (if t172 = true then (some (t169, true)) else (some (([] : List (S67)), false))) = some (r1, r2) := H
       have A86 := AM A860
       clear A860
       by_cases c87 : t172 = true
       ·subst c87
        have H1 : (some (t169, true)) = some (r1, r2) := by rw [if_pos rfl] at H; exact H
        clear H
        have H := H1
        clear H1
        simp only [Option.some.injEq, Prod.mk.injEq] at H
        obtain ⟨rfl, rfl⟩ := H
        go_wp2_with (first | ((with_reducible refine gate_dst (N := 8) rfl ?_); refine box_event ?hg (N := 8) ?hd (cs := #[.slice none 0 0]) (t := 30) ?hr ?_; (case hd => rfl); (case hg => rfl); (case hr => first | (go_simp; done) | (go_simp; rfl)); intro gb168 hg w88 hbox hb; have n0_ := AM (blk_below (g := gb160) (o := .cells #[.slice A0_0 l0_0.length c0_0] 30 (0, 0)) (bk BK160) hb); have n1_ := AM (blk_below (g := gb161) (o := .cells #[.int .i64 a1_0, .string a1_1, .string a1_2, .string a1_3] 41 (0, 0)) (bk BK161) hb); have n2_ := AM (blk_below (g := gb162) (o := .cells #[.slice none 0 0] 30 (0, 0)) (bk BK162) hb); have n3_ := AM (blk_below (g := gb166) (o := .cells #[.string x167000_59, .string x167001_59, .int .i64 x167002_59] 67 (0, 0)) (bk BK166) hb); have n4_ := AM (below_step (hS) hb); have n5_ := AM (hbox); have n6_ := AM ((by rw [hg]; exact (below_size (hS)) : w.heap.size ≤ gb168)); have n7_ := AM ((by rw [hg]; exact (below_size (hS)) : w.heap.size ≤ gb168)); have n8_ := AM ((by rw [hg]; exact Nat.ne_of_lt (blk_lt (g := gb160) (o := .cells #[.slice A0_0 l0_0.length c0_0] 30 (0, 0)) (bk BK160)) : gb160 ≠ gb168)); have n9_ := AM ((by rw [hg]; exact Nat.ne_of_gt (blk_lt (g := gb160) (o := .cells #[.slice A0_0 l0_0.length c0_0] 30 (0, 0)) (bk BK160)) : gb168 ≠ gb160)); have n10_ := AM ((by rw [hg]; exact Nat.ne_of_lt (blk_lt (g := gb161) (o := .cells #[.int .i64 a1_0, .string a1_1, .string a1_2, .string a1_3] 41 (0, 0)) (bk BK161)) : gb161 ≠ gb168)); have n11_ := AM ((by rw [hg]; exact Nat.ne_of_gt (blk_lt (g := gb161) (o := .cells #[.int .i64 a1_0, .string a1_1, .string a1_2, .string a1_3] 41 (0, 0)) (bk BK161)) : gb168 ≠ gb161)); have n12_ := AM ((by rw [hg]; exact Nat.ne_of_lt (blk_lt (g := gb162) (o := .cells #[.slice none 0 0] 30 (0, 0)) (bk BK162)) : gb162 ≠ gb168)); have n13_ := AM ((by rw [hg]; exact Nat.ne_of_gt (blk_lt (g := gb162) (o := .cells #[.slice none 0 0] 30 (0, 0)) (bk BK162)) : gb168 ≠ gb162)); have n14_ := AM ((by rw [hg]; exact Nat.ne_of_lt (blk_lt (g := gb166) (o := .cells #[.string x167000_59, .string x167001_59, .int .i64 x167002_59] 67 (0, 0)) (bk BK166)) : gb166 ≠ gb168)); have n15_ := AM ((by rw [hg]; exact Nat.ne_of_gt (blk_lt (g := gb166) (o := .cells #[.string x167000_59, .string x167001_59, .int .i64 x167002_59] 67 (0, 0)) (bk BK166)) : gb168 ≠ gb166)); clear BK160; clear BK161; clear BK162; clear BK166; clear HB; have BK160 := n0_; have BK161 := n1_; have BK162 := n2_; have BK166 := n3_; have HB := n4_; have BK168 := n5_; have GW168 := n6_; have GE168 := n7_; have NB160_168 := n8_; have NB168_160 := n9_; have NB161_168 := n10_; have NB168_161 := n11_; have NB162_168 := n12_; have NB168_162 := n13_; have NB166_168 := n14_; have NB168_166 := n15_; clear n0_ n1_ n2_ n3_ n4_ n5_ n6_ n7_ n8_ n9_ n10_ n11_ n12_ n13_ n14_ n15_; clear hb hbox hg; have hnb89 := NB168_160.out; have hnc89 := NB160_168.out; have hnb90 := NB168_161.out; have hnc90 := NB161_168.out; have hnb91 := NB168_162.out; have hnc91 := NB162_168.out; have hnb92 := NB168_166.out; have hnc92 := NB166_168.out; have hcz93_0 : w88.cell? ⟨gb168, 0, none⟩ = some (.slice none 0 0) := (blk_cell BK168.out 0).trans rfl; have hfz93_0 := blk_frozen BK168.out 0; have hnb94 := NB161_160.out; have hnc94 := NB160_161.out; have hnb95 := NB161_162.out; have hnc95 := NB162_161.out; have hnb96 := NB161_166.out; have hnc96 := NB166_161.out; have hcz97_0 : w88.cell? ⟨gb161, 0, none⟩ = some (.int .i64 a1_0) := (blk_cell BK161.out 0).trans rfl; have hcz97_1 : w88.cell? ⟨gb161, 1, none⟩ = some (.string a1_1) := (blk_cell BK161.out 1).trans rfl; have hcz97_2 : w88.cell? ⟨gb161, 2, none⟩ = some (.string a1_2) := (blk_cell BK161.out 2).trans rfl; have hcz97_3 : w88.cell? ⟨gb161, 3, none⟩ = some (.string a1_3) := (blk_cell BK161.out 3).trans rfl; have hfz97_0 := blk_frozen BK161.out 0; have hfz97_1 := blk_frozen BK161.out 1; have hfz97_2 := blk_frozen BK161.out 2; have hfz97_3 := blk_frozen BK161.out 3; have hnb98 := NB166_160.out; have hnc98 := NB160_166.out; have hnb99 := NB166_162.out; have hnc99 := NB162_166.out; have hcz100_0 : w88.cell? ⟨gb166, 0, none⟩ = some (.string x167000_59) := (blk_cell BK166.out 0).trans rfl; have hcz100_1 : w88.cell? ⟨gb166, 1, none⟩ = some (.string x167001_59) := (blk_cell BK166.out 1).trans rfl; have hcz100_2 : w88.cell? ⟨gb166, 2, none⟩ = some (.int .i64 x167002_59) := (blk_cell BK166.out 2).trans rfl; have hfz100_0 := blk_frozen BK166.out 0; have hfz100_1 := blk_frozen BK166.out 1; have hfz100_2 := blk_frozen BK166.out 2; have hnb101 := NB160_162.out; have hnc101 := NB162_160.out; have hcz102_0 : w88.cell? ⟨gb160, 0, none⟩ = some (.slice A0_0 l0_0.length c0_0) := (blk_cell BK160.out 0).trans rfl; have hfz102_0 := blk_frozen BK160.out 0) | ((with_reducible refine gate_callee (f := 46) rfl ?_); refine goesL_ (some 67) rfl rfl Try.func46 (by kernel_rfl) rfl #[.agg #[.slice A0_0 l0_0.length c0_0], .agg #[.string x167000_59, .string (x167001_59 ++ a1_2), .int .i64 x167002_59]] rfl (by (try simp only [List.map_toArray, List.map_cons, List.map_nil]); first | done | rfl) ?_; (with_reducible refine (spec_l03Put.calls kj59 _ _ l0_0 x167000_59 (x167001_59 ++ a1_2) x167002_59 t169 _ ?side1 ?side2 A85.out).mono ?_); (case side1 => exact Kd.C_below HR0_0.out (hS)); (case side2 => exact HC0_0.out); rintro e w103 ⟨v170, rfl, ho0, hb⟩; refine ⟨_, rfl, ?_⟩; have n0_ := AM (Kd.R_lower (Kd.R_newB ho0 (g := gb166) (o := .cells #[.string x167000_59, .string (x167001_59 ++ a1_2), .int .i64 x167002_59] 67 (0, 0)) (by (with_reducible repeat (first | refine blk_drewN ?_ _ | refine blk_drew ?_ | refine blk_alloc ?_ _)); refine blk_put (cs := #[.string x167000_59, .string x167001_59, .int .i64 x167002_59]) ?_ 1 _ rfl; (with_reducible repeat (first | refine blk_drewN ?_ _ | refine blk_drew ?_ | refine blk_alloc ?_ _)); refine blk_far ?_ NB166_168.out _; (with_reducible repeat (first | refine blk_drewN ?_ _ | refine blk_drew ?_ | refine blk_alloc ?_ _)); exact BK166.out)) (below_size (hS))); have n1_ := AM (blk_below (g := gb160) (o := .cells #[.slice A0_0 l0_0.length c0_0] 30 (0, 0)) (by (with_reducible repeat (first | refine blk_drewN ?_ _ | refine blk_drew ?_ | refine blk_alloc ?_ _)); refine blk_far ?_ NB160_166.out _; (with_reducible repeat (first | refine blk_drewN ?_ _ | refine blk_drew ?_ | refine blk_alloc ?_ _)); refine blk_far ?_ NB160_168.out _; (with_reducible repeat (first | refine blk_drewN ?_ _ | refine blk_drew ?_ | refine blk_alloc ?_ _)); exact BK160.out) hb); have n2_ := AM (blk_below (g := gb161) (o := .cells #[.int .i64 a1_0, .string a1_1, .string a1_2, .string a1_3] 41 (0, 0)) (by (with_reducible repeat (first | refine blk_drewN ?_ _ | refine blk_drew ?_ | refine blk_alloc ?_ _)); refine blk_far ?_ NB161_166.out _; (with_reducible repeat (first | refine blk_drewN ?_ _ | refine blk_drew ?_ | refine blk_alloc ?_ _)); refine blk_far ?_ NB161_168.out _; (with_reducible repeat (first | refine blk_drewN ?_ _ | refine blk_drew ?_ | refine blk_alloc ?_ _)); exact BK161.out) hb); have n3_ := AM (blk_below (g := gb162) (o := .cells #[.slice none 0 0] 30 (0, 0)) (by (with_reducible repeat (first | refine blk_drewN ?_ _ | refine blk_drew ?_ | refine blk_alloc ?_ _)); refine blk_far ?_ NB162_166.out _; (with_reducible repeat (first | refine blk_drewN ?_ _ | refine blk_drew ?_ | refine blk_alloc ?_ _)); refine blk_far ?_ NB162_168.out _; (with_reducible repeat (first | refine blk_drewN ?_ _ | refine blk_drew ?_ | refine blk_alloc ?_ _)); exact BK162.out) hb); have n4_ := AM (blk_below (g := gb166) (o := .cells #[.string x167000_59, .string (x167001_59 ++ a1_2), .int .i64 x167002_59] 67 (0, 0)) (by (with_reducible repeat (first | refine blk_drewN ?_ _ | refine blk_drew ?_ | refine blk_alloc ?_ _)); refine blk_put (cs := #[.string x167000_59, .string x167001_59, .int .i64 x167002_59]) ?_ 1 _ rfl; (with_reducible repeat (first | refine blk_drewN ?_ _ | refine blk_drew ?_ | refine blk_alloc ?_ _)); refine blk_far ?_ NB166_168.out _; (with_reducible repeat (first | refine blk_drewN ?_ _ | refine blk_drew ?_ | refine blk_alloc ?_ _)); exact BK166.out) hb); have n5_ := AM (blk_below (g := gb168) (o := .cells #[.slice none 0 0] 30 (0, 0)) (by (with_reducible repeat (first | refine blk_drewN ?_ _ | refine blk_drew ?_ | refine blk_alloc ?_ _)); refine blk_far ?_ NB168_166.out _; (with_reducible repeat (first | refine blk_drewN ?_ _ | refine blk_drew ?_ | refine blk_alloc ?_ _)); refine blk_put (cs := #[.slice none 0 0]) ?_ 0 _ rfl; (with_reducible repeat (first | refine blk_drewN ?_ _ | refine blk_drew ?_ | refine blk_alloc ?_ _)); exact BK168.out) hb); have n6_ := AM (below_step (hS) hb); clear BK160; clear BK161; clear BK162; clear BK166; clear BK168; clear HB; have HO171 := n0_; have BK160 := n1_; have BK161 := n2_; have BK162 := n3_; have BK166 := n4_; have BK168 := n5_; have HB := n6_; clear n0_ n1_ n2_ n3_ n4_ n5_ n6_; (try clear hb); (try clear ho0); obtain ⟨Ao104, co104, eo104⟩ := Kd.R_slice HO171.out; subst eo104; have hcz105_0 : w103.cell? ⟨gb168, 0, none⟩ = some (.slice none 0 0) := (blk_cell BK168.out 0).trans rfl; have hfz105_0 := blk_frozen BK168.out 0) | ((with_reducible refine gate_callee (f := 41) rfl ?_); refine goesL_ (some 125) rfl rfl Try.func41 (by kernel_rfl) rfl #[.agg #[.slice Ao104 t169.length co104]] rfl (by (try simp only [List.map_toArray, List.map_cons, List.map_nil]); first | done | rfl) ?_; (with_reducible refine (spec_DiskOk.calls kj59 _ _ t169 true _ ?side1 ?side2 A86.out).mono ?_); (case side1 => refine (Kd.R_reads' (e := 67) (base := w.heap.size) (ok := fun k_ => (True ∧ k_ ≠ gb166)) (n := t169.length) (c := co104) ?_).2.2; exact (by exact (Kd.R_mono (Kd.R_far (p := ⟨gb168, 0, none⟩) (Kd.R_types HO171.out BK168.out (by decide)) (fun _ hk => hk.2) (.slice Ao104 t169.length co104)) (fun _ h_ => h_.1)))); (case side2 => exact (Kd.R_reads' HO171.out).2.1); rintro e w106 ⟨rfl, hb⟩; refine ⟨_, rfl, ?_⟩; have n0_ := AM (Kd.R_below (by exact (Kd.R_mono (Kd.R_far (p := ⟨gb168, 0, none⟩) (Kd.R_types HO171.out BK168.out (by decide)) (fun _ hk => hk.2) (.slice Ao104 t169.length co104)) (fun _ h_ => h_.1))) hb); have n1_ := AM (blk_below (g := gb160) (o := .cells #[.slice A0_0 l0_0.length c0_0] 30 (0, 0)) (by (with_reducible repeat (first | refine blk_drewN ?_ _ | refine blk_drew ?_ | refine blk_alloc ?_ _)); refine blk_far ?_ NB160_168.out _; (with_reducible repeat (first | refine blk_drewN ?_ _ | refine blk_drew ?_ | refine blk_alloc ?_ _)); exact BK160.out) hb); have n2_ := AM (blk_below (g := gb161) (o := .cells #[.int .i64 a1_0, .string a1_1, .string a1_2, .string a1_3] 41 (0, 0)) (by (with_reducible repeat (first | refine blk_drewN ?_ _ | refine blk_drew ?_ | refine blk_alloc ?_ _)); refine blk_far ?_ NB161_168.out _; (with_reducible repeat (first | refine blk_drewN ?_ _ | refine blk_drew ?_ | refine blk_alloc ?_ _)); exact BK161.out) hb); have n3_ := AM (blk_below (g := gb162) (o := .cells #[.slice none 0 0] 30 (0, 0)) (by (with_reducible repeat (first | refine blk_drewN ?_ _ | refine blk_drew ?_ | refine blk_alloc ?_ _)); refine blk_far ?_ NB162_168.out _; (with_reducible repeat (first | refine blk_drewN ?_ _ | refine blk_drew ?_ | refine blk_alloc ?_ _)); exact BK162.out) hb); have n4_ := AM (blk_below (g := gb166) (o := .cells #[.string x167000_59, .string (x167001_59 ++ a1_2), .int .i64 x167002_59] 67 (0, 0)) (by (with_reducible repeat (first | refine blk_drewN ?_ _ | refine blk_drew ?_ | refine blk_alloc ?_ _)); refine blk_far ?_ NB166_168.out _; (with_reducible repeat (first | refine blk_drewN ?_ _ | refine blk_drew ?_ | refine blk_alloc ?_ _)); exact BK166.out) hb); have n5_ := AM (blk_below (g := gb168) (o := .cells #[.slice Ao104 t169.length co104] 30 (0, 0)) (by (with_reducible repeat (first | refine blk_drewN ?_ _ | refine blk_drew ?_ | refine blk_alloc ?_ _)); refine blk_put (cs := #[.slice none 0 0]) ?_ 0 _ rfl; (with_reducible repeat (first | refine blk_drewN ?_ _ | refine blk_drew ?_ | refine blk_alloc ?_ _)); exact BK168.out) hb); have n6_ := AM (below_step (hS) hb); clear HO171; clear BK160; clear BK161; clear BK162; clear BK166; clear BK168; clear HB; have HO171 := n0_; have BK160 := n1_; have BK161 := n2_; have BK162 := n3_; have BK166 := n4_; have BK168 := n5_; have HB := n6_; clear n0_ n1_ n2_ n3_ n4_ n5_ n6_; (try clear hb); (try clear hk); have hcz107_0 : w106.cell? ⟨gb168, 0, none⟩ = some (.slice Ao104 t169.length co104) := (blk_cell BK168.out 0).trans rfl; have hfz107_0 := blk_frozen BK168.out 0; have hcz108_0 : w106.cell? ⟨gb162, 0, none⟩ = some (.slice none 0 0) := (blk_cell BK162.out 0).trans rfl; have hfz108_0 := blk_frozen BK162.out 0))
        refine bodyPost_ret (results_ct rfl _ _ gb162 30 #[.slice Ao104 t169.length co104] (0, 0) _ rfl (by (with_reducible repeat (first | refine blk_drewN ?_ _ | refine blk_drew ?_ | refine blk_alloc ?_ _)); refine blk_put (cs := #[.slice none 0 0]) ?_ 0 _ rfl; (with_reducible repeat (first | refine blk_drewN ?_ _ | refine blk_drew ?_ | refine blk_alloc ?_ _)); exact BK162.out) Try.underlying30 rfl (by kernel_rfl)) rfl ?_
        exact ⟨_, by first | rfl | (simp [errW_none, errW_some] <;> rfl) | (simp [*, errW_none, errW_some] <;> rfl), by exact Kd.R_mono (Kd.R_far (p := ⟨gb162, 0, none⟩) (Kd.R_types HO171.out BK162.out (by decide)) (fun _ hk => hk.2) (.slice Ao104 t169.length co104)) (fun _ hk => trivial), hS⟩
       replace c87 := Bool.eq_false_iff.mpr c87
       subst c87
       have H1 : (some (([] : List (S67)), false)) = some (r1, r2) := by rw [if_neg (show ¬ (false = true) by decide)] at H; exact H
       clear H
       have H := H1
       clear H1
       simp only [Option.some.injEq, Prod.mk.injEq] at H
       obtain ⟨rfl, rfl⟩ := H
       go_wp2_with (first | ((with_reducible refine gate_dst (N := 8) rfl ?_); refine box_event ?hg (N := 8) ?hd (cs := #[.slice none 0 0]) (t := 30) ?hr ?_; (case hd => rfl); (case hg => rfl); (case hr => first | (go_simp; done) | (go_simp; rfl)); intro gb168 hg w109 hbox hb; have n0_ := AM (blk_below (g := gb160) (o := .cells #[.slice A0_0 l0_0.length c0_0] 30 (0, 0)) (bk BK160) hb); have n1_ := AM (blk_below (g := gb161) (o := .cells #[.int .i64 a1_0, .string a1_1, .string a1_2, .string a1_3] 41 (0, 0)) (bk BK161) hb); have n2_ := AM (blk_below (g := gb162) (o := .cells #[.slice none 0 0] 30 (0, 0)) (bk BK162) hb); have n3_ := AM (blk_below (g := gb166) (o := .cells #[.string x167000_59, .string x167001_59, .int .i64 x167002_59] 67 (0, 0)) (bk BK166) hb); have n4_ := AM (below_step (hS) hb); have n5_ := AM (hbox); have n6_ := AM ((by rw [hg]; exact (below_size (hS)) : w.heap.size ≤ gb168)); have n7_ := AM ((by rw [hg]; exact (below_size (hS)) : w.heap.size ≤ gb168)); have n8_ := AM ((by rw [hg]; exact Nat.ne_of_lt (blk_lt (g := gb160) (o := .cells #[.slice A0_0 l0_0.length c0_0] 30 (0, 0)) (bk BK160)) : gb160 ≠ gb168)); have n9_ := AM ((by rw [hg]; exact Nat.ne_of_gt (blk_lt (g := gb160) (o := .cells #[.slice A0_0 l0_0.length c0_0] 30 (0, 0)) (bk BK160)) : gb168 ≠ gb160)); have n10_ := AM ((by rw [hg]; exact Nat.ne_of_lt (blk_lt (g := gb161) (o := .cells #[.int .i64 a1_0, .string a1_1, .string a1_2, .string a1_3] 41 (0, 0)) (bk BK161)) : gb161 ≠ gb168)); have n11_ := AM ((by rw [hg]; exact Nat.ne_of_gt (blk_lt (g := gb161) (o := .cells #[.int .i64 a1_0, .string a1_1, .string a1_2, .string a1_3] 41 (0, 0)) (bk BK161)) : gb168 ≠ gb161)); have n12_ := AM ((by rw [hg]; exact Nat.ne_of_lt (blk_lt (g := gb162) (o := .cells #[.slice none 0 0] 30 (0, 0)) (bk BK162)) : gb162 ≠ gb168)); have n13_ := AM ((by rw [hg]; exact Nat.ne_of_gt (blk_lt (g := gb162) (o := .cells #[.slice none 0 0] 30 (0, 0)) (bk BK162)) : gb168 ≠ gb162)); have n14_ := AM ((by rw [hg]; exact Nat.ne_of_lt (blk_lt (g := gb166) (o := .cells #[.string x167000_59, .string x167001_59, .int .i64 x167002_59] 67 (0, 0)) (bk BK166)) : gb166 ≠ gb168)); have n15_ := AM ((by rw [hg]; exact Nat.ne_of_gt (blk_lt (g := gb166) (o := .cells #[.string x167000_59, .string x167001_59, .int .i64 x167002_59] 67 (0, 0)) (bk BK166)) : gb168 ≠ gb166)); clear BK160; clear BK161; clear BK162; clear BK166; clear HB; have BK160 := n0_; have BK161 := n1_; have BK162 := n2_; have BK166 := n3_; have HB := n4_; have BK168 := n5_; have GW168 := n6_; have GE168 := n7_; have NB160_168 := n8_; have NB168_160 := n9_; have NB161_168 := n10_; have NB168_161 := n11_; have NB162_168 := n12_; have NB168_162 := n13_; have NB166_168 := n14_; have NB168_166 := n15_; clear n0_ n1_ n2_ n3_ n4_ n5_ n6_ n7_ n8_ n9_ n10_ n11_ n12_ n13_ n14_ n15_; clear hb hbox hg; have hnb110 := NB168_160.out; have hnc110 := NB160_168.out; have hnb111 := NB168_161.out; have hnc111 := NB161_168.out; have hnb112 := NB168_162.out; have hnc112 := NB162_168.out; have hnb113 := NB168_166.out; have hnc113 := NB166_168.out; have hcz114_0 : w109.cell? ⟨gb168, 0, none⟩ = some (.slice none 0 0) := (blk_cell BK168.out 0).trans rfl; have hfz114_0 := blk_frozen BK168.out 0; have hnb115 := NB161_160.out; have hnc115 := NB160_161.out; have hnb116 := NB161_162.out; have hnc116 := NB162_161.out; have hnb117 := NB161_166.out; have hnc117 := NB166_161.out; have hcz118_0 : w109.cell? ⟨gb161, 0, none⟩ = some (.int .i64 a1_0) := (blk_cell BK161.out 0).trans rfl; have hcz118_1 : w109.cell? ⟨gb161, 1, none⟩ = some (.string a1_1) := (blk_cell BK161.out 1).trans rfl; have hcz118_2 : w109.cell? ⟨gb161, 2, none⟩ = some (.string a1_2) := (blk_cell BK161.out 2).trans rfl; have hcz118_3 : w109.cell? ⟨gb161, 3, none⟩ = some (.string a1_3) := (blk_cell BK161.out 3).trans rfl; have hfz118_0 := blk_frozen BK161.out 0; have hfz118_1 := blk_frozen BK161.out 1; have hfz118_2 := blk_frozen BK161.out 2; have hfz118_3 := blk_frozen BK161.out 3; have hnb119 := NB166_160.out; have hnc119 := NB160_166.out; have hnb120 := NB166_162.out; have hnc120 := NB162_166.out; have hcz121_0 : w109.cell? ⟨gb166, 0, none⟩ = some (.string x167000_59) := (blk_cell BK166.out 0).trans rfl; have hcz121_1 : w109.cell? ⟨gb166, 1, none⟩ = some (.string x167001_59) := (blk_cell BK166.out 1).trans rfl; have hcz121_2 : w109.cell? ⟨gb166, 2, none⟩ = some (.int .i64 x167002_59) := (blk_cell BK166.out 2).trans rfl; have hfz121_0 := blk_frozen BK166.out 0; have hfz121_1 := blk_frozen BK166.out 1; have hfz121_2 := blk_frozen BK166.out 2; have hnb122 := NB160_162.out; have hnc122 := NB162_160.out; have hcz123_0 : w109.cell? ⟨gb160, 0, none⟩ = some (.slice A0_0 l0_0.length c0_0) := (blk_cell BK160.out 0).trans rfl; have hfz123_0 := blk_frozen BK160.out 0) | ((with_reducible refine gate_callee (f := 46) rfl ?_); refine goesL_ (some 67) rfl rfl Try.func46 (by kernel_rfl) rfl #[.agg #[.slice A0_0 l0_0.length c0_0], .agg #[.string x167000_59, .string (x167001_59 ++ a1_2), .int .i64 x167002_59]] rfl (by (try simp only [List.map_toArray, List.map_cons, List.map_nil]); first | done | rfl) ?_; (with_reducible refine (spec_l03Put.calls kj59 _ _ l0_0 x167000_59 (x167001_59 ++ a1_2) x167002_59 t169 _ ?side1 ?side2 A85.out).mono ?_); (case side1 => exact Kd.C_below HR0_0.out (hS)); (case side2 => exact HC0_0.out); rintro e w124 ⟨v170, rfl, ho0, hb⟩; refine ⟨_, rfl, ?_⟩; have n0_ := AM (Kd.R_lower (Kd.R_newB ho0 (g := gb166) (o := .cells #[.string x167000_59, .string (x167001_59 ++ a1_2), .int .i64 x167002_59] 67 (0, 0)) (by (with_reducible repeat (first | refine blk_drewN ?_ _ | refine blk_drew ?_ | refine blk_alloc ?_ _)); refine blk_put (cs := #[.string x167000_59, .string x167001_59, .int .i64 x167002_59]) ?_ 1 _ rfl; (with_reducible repeat (first | refine blk_drewN ?_ _ | refine blk_drew ?_ | refine blk_alloc ?_ _)); refine blk_far ?_ NB166_168.out _; (with_reducible repeat (first | refine blk_drewN ?_ _ | refine blk_drew ?_ | refine blk_alloc ?_ _)); exact BK166.out)) (below_size (hS))); have n1_ := AM (blk_below (g := gb160) (o := .cells #[.slice A0_0 l0_0.length c0_0] 30 (0, 0)) (by (with_reducible repeat (first | refine blk_drewN ?_ _ | refine blk_drew ?_ | refine blk_alloc ?_ _)); refine blk_far ?_ NB160_166.out _; (with_reducible repeat (first | refine blk_drewN ?_ _ | refine blk_drew ?_ | refine blk_alloc ?_ _)); refine blk_far ?_ NB160_168.out _; (with_reducible repeat (first | refine blk_drewN ?_ _ | refine blk_drew ?_ | refine blk_alloc ?_ _)); exact BK160.out) hb); have n2_ := AM (blk_below (g := gb161) (o := .cells #[.int .i64 a1_0, .string a1_1, .string a1_2, .string a1_3] 41 (0, 0)) (by (with_reducible repeat (first | refine blk_drewN ?_ _ | refine blk_drew ?_ | refine blk_alloc ?_ _)); refine blk_far ?_ NB161_166.out _; (with_reducible repeat (first | refine blk_drewN ?_ _ | refine blk_drew ?_ | refine blk_alloc ?_ _)); refine blk_far ?_ NB161_168.out _; (with_reducible repeat (first | refine blk_drewN ?_ _ | refine blk_drew ?_ | refine blk_alloc ?_ _)); exact BK161.out) hb); have n3_ := AM (blk_below (g := gb162) (o := .cells #[.slice none 0 0] 30 (0, 0)) (by (with_reducible repeat (first | refine blk_drewN ?_ _ | refine blk_drew ?_ | refine blk_alloc ?_ _)); refine blk_far ?_ NB162_166.out _; (with_reducible repeat (first | refine blk_drewN ?_ _ | refine blk_drew ?_ | refine blk_alloc ?_ _)); refine blk_far ?_ NB162_168.out _; (with_reducible repeat (first | refine blk_drewN ?_ _ | refine blk_drew ?_ | refine blk_alloc ?_ _)); exact BK162.out) hb); have n4_ := AM (blk_below (g := gb166) (o := .cells #[.string x167000_59, .string (x167001_59 ++ a1_2), .int .i64 x167002_59] 67 (0, 0)) (by (with_reducible repeat (first | refine blk_drewN ?_ _ | refine blk_drew ?_ | refine blk_alloc ?_ _)); refine blk_put (cs := #[.string x167000_59, .string x167001_59, .int .i64 x167002_59]) ?_ 1 _ rfl; (with_reducible repeat (first | refine blk_drewN ?_ _ | refine blk_drew ?_ | refine blk_alloc ?_ _)); refine blk_far ?_ NB166_168.out _; (with_reducible repeat (first | refine blk_drewN ?_ _ | refine blk_drew ?_ | refine blk_alloc ?_ _)); exact BK166.out) hb); have n5_ := AM (blk_below (g := gb168) (o := .cells #[.slice none 0 0] 30 (0, 0)) (by (with_reducible repeat (first | refine blk_drewN ?_ _ | refine blk_drew ?_ | refine blk_alloc ?_ _)); refine blk_far ?_ NB168_166.out _; (with_reducible repeat (first | refine blk_drewN ?_ _ | refine blk_drew ?_ | refine blk_alloc ?_ _)); refine blk_put (cs := #[.slice none 0 0]) ?_ 0 _ rfl; (with_reducible repeat (first | refine blk_drewN ?_ _ | refine blk_drew ?_ | refine blk_alloc ?_ _)); exact BK168.out) hb); have n6_ := AM (below_step (hS) hb); clear BK160; clear BK161; clear BK162; clear BK166; clear BK168; clear HB; have HO171 := n0_; have BK160 := n1_; have BK161 := n2_; have BK162 := n3_; have BK166 := n4_; have BK168 := n5_; have HB := n6_; clear n0_ n1_ n2_ n3_ n4_ n5_ n6_; (try clear hb); (try clear ho0); obtain ⟨Ao125, co125, eo125⟩ := Kd.R_slice HO171.out; subst eo125; have hcz126_0 : w124.cell? ⟨gb168, 0, none⟩ = some (.slice none 0 0) := (blk_cell BK168.out 0).trans rfl; have hfz126_0 := blk_frozen BK168.out 0) | ((with_reducible refine gate_callee (f := 41) rfl ?_); refine goesL_ (some 125) rfl rfl Try.func41 (by kernel_rfl) rfl #[.agg #[.slice Ao125 t169.length co125]] rfl (by (try simp only [List.map_toArray, List.map_cons, List.map_nil]); first | done | rfl) ?_; (with_reducible refine (spec_DiskOk.calls kj59 _ _ t169 false _ ?side1 ?side2 A86.out).mono ?_); (case side1 => refine (Kd.R_reads' (e := 67) (base := w.heap.size) (ok := fun k_ => (True ∧ k_ ≠ gb166)) (n := t169.length) (c := co125) ?_).2.2; exact (by exact (Kd.R_mono (Kd.R_far (p := ⟨gb168, 0, none⟩) (Kd.R_types HO171.out BK168.out (by decide)) (fun _ hk => hk.2) (.slice Ao125 t169.length co125)) (fun _ h_ => h_.1)))); (case side2 => exact (Kd.R_reads' HO171.out).2.1); rintro e w127 ⟨rfl, hb⟩; refine ⟨_, rfl, ?_⟩; have n0_ := AM (Kd.R_below (by exact (Kd.R_mono (Kd.R_far (p := ⟨gb168, 0, none⟩) (Kd.R_types HO171.out BK168.out (by decide)) (fun _ hk => hk.2) (.slice Ao125 t169.length co125)) (fun _ h_ => h_.1))) hb); have n1_ := AM (blk_below (g := gb160) (o := .cells #[.slice A0_0 l0_0.length c0_0] 30 (0, 0)) (by (with_reducible repeat (first | refine blk_drewN ?_ _ | refine blk_drew ?_ | refine blk_alloc ?_ _)); refine blk_far ?_ NB160_168.out _; (with_reducible repeat (first | refine blk_drewN ?_ _ | refine blk_drew ?_ | refine blk_alloc ?_ _)); exact BK160.out) hb); have n2_ := AM (blk_below (g := gb161) (o := .cells #[.int .i64 a1_0, .string a1_1, .string a1_2, .string a1_3] 41 (0, 0)) (by (with_reducible repeat (first | refine blk_drewN ?_ _ | refine blk_drew ?_ | refine blk_alloc ?_ _)); refine blk_far ?_ NB161_168.out _; (with_reducible repeat (first | refine blk_drewN ?_ _ | refine blk_drew ?_ | refine blk_alloc ?_ _)); exact BK161.out) hb); have n3_ := AM (blk_below (g := gb162) (o := .cells #[.slice none 0 0] 30 (0, 0)) (by (with_reducible repeat (first | refine blk_drewN ?_ _ | refine blk_drew ?_ | refine blk_alloc ?_ _)); refine blk_far ?_ NB162_168.out _; (with_reducible repeat (first | refine blk_drewN ?_ _ | refine blk_drew ?_ | refine blk_alloc ?_ _)); exact BK162.out) hb); have n4_ := AM (blk_below (g := gb166) (o := .cells #[.string x167000_59, .string (x167001_59 ++ a1_2), .int .i64 x167002_59] 67 (0, 0)) (by (with_reducible repeat (first | refine blk_drewN ?_ _ | refine blk_drew ?_ | refine blk_alloc ?_ _)); refine blk_far ?_ NB166_168.out _; (with_reducible repeat (first | refine blk_drewN ?_ _ | refine blk_drew ?_ | refine blk_alloc ?_ _)); exact BK166.out) hb); have n5_ := AM (blk_below (g := gb168) (o := .cells #[.slice Ao125 t169.length co125] 30 (0, 0)) (by (with_reducible repeat (first | refine blk_drewN ?_ _ | refine blk_drew ?_ | refine blk_alloc ?_ _)); refine blk_put (cs := #[.slice none 0 0]) ?_ 0 _ rfl; (with_reducible repeat (first | refine blk_drewN ?_ _ | refine blk_drew ?_ | refine blk_alloc ?_ _)); exact BK168.out) hb); have n6_ := AM (below_step (hS) hb); clear HO171; clear BK160; clear BK161; clear BK162; clear BK166; clear BK168; clear HB; have HO171 := n0_; have BK160 := n1_; have BK161 := n2_; have BK162 := n3_; have BK166 := n4_; have BK168 := n5_; have HB := n6_; clear n0_ n1_ n2_ n3_ n4_ n5_ n6_; (try clear hb); (try clear hk); have hcz128_0 : w127.cell? ⟨gb162, 0, none⟩ = some (.slice none 0 0) := (blk_cell BK162.out 0).trans rfl; have hfz128_0 := blk_frozen BK162.out 0))
       refine bodyPost_ret (results_ct rfl _ _ gb162 30 #[.slice none 0 0] (0, 0) _ rfl (by (with_reducible repeat (first | refine blk_drewN ?_ _ | refine blk_drew ?_ | refine blk_alloc ?_ _)); refine blk_put (cs := #[.slice none 0 0]) ?_ 0 _ rfl; (with_reducible repeat (first | refine blk_drewN ?_ _ | refine blk_drew ?_ | refine blk_alloc ?_ _)); exact BK162.out) Try.underlying30 rfl (by kernel_rfl)) rfl ?_
       exact ⟨_, by first | rfl | (simp [errW_none, errW_some] <;> rfl) | (simp [*, errW_none, errW_some] <;> rfl), by first | exact Kd.R_nil _ _ _ _ _ | exact Kd.N_nil _ _ _ _ _ | exact Kd.V_nil _ _ _ _ _ | exact Kd.Q_nil _ _ _ _ _ | exact Kd.S_nil _ _ _ _ _, hS⟩
      rw [if_neg c84] at H
      exact absurd H (by simp)
     rw [if_neg c83] at H
     have c83b0 : (a1_0 == 1) = false := beq_eq_false_iff_ne.mpr c83
     have c83b1 : (a1_0 != 1) = true := bne_iff_ne.mpr c83
     by_cases c129 : t165 < 0
     ·rw [if_pos c129] at H
      have c129b0 : decide (t165 < 0) = true := decide_eq_true c129
      clear c129
      simp only [Option.some.injEq, Prod.mk.injEq] at H
      obtain ⟨rfl, rfl⟩ := H
      go_wp2_with (first | ((with_reducible refine gate_dst (N := 8) rfl ?_); refine box_event ?hg (N := 8) ?hd (cs := #[.slice none 0 0]) (t := 30) ?hr ?_; (case hd => rfl); (case hg => rfl); (case hr => first | (go_simp; done) | (go_simp; rfl)); intro gb168 hg w130 hbox hb; have n0_ := AM (blk_below (g := gb160) (o := .cells #[.slice A0_0 l0_0.length c0_0] 30 (0, 0)) (bk BK160) hb); have n1_ := AM (blk_below (g := gb161) (o := .cells #[.int .i64 a1_0, .string a1_1, .string a1_2, .string a1_3] 41 (0, 0)) (bk BK161) hb); have n2_ := AM (blk_below (g := gb162) (o := .cells #[.slice none 0 0] 30 (0, 0)) (bk BK162) hb); have n3_ := AM (blk_below (g := gb166) (o := .cells #[.string x167000_59, .string x167001_59, .int .i64 x167002_59] 67 (0, 0)) (bk BK166) hb); have n4_ := AM (below_step (hS) hb); have n5_ := AM (hbox); have n6_ := AM ((by rw [hg]; exact (below_size (hS)) : w.heap.size ≤ gb168)); have n7_ := AM ((by rw [hg]; exact (below_size (hS)) : w.heap.size ≤ gb168)); have n8_ := AM ((by rw [hg]; exact Nat.ne_of_lt (blk_lt (g := gb160) (o := .cells #[.slice A0_0 l0_0.length c0_0] 30 (0, 0)) (bk BK160)) : gb160 ≠ gb168)); have n9_ := AM ((by rw [hg]; exact Nat.ne_of_gt (blk_lt (g := gb160) (o := .cells #[.slice A0_0 l0_0.length c0_0] 30 (0, 0)) (bk BK160)) : gb168 ≠ gb160)); have n10_ := AM ((by rw [hg]; exact Nat.ne_of_lt (blk_lt (g := gb161) (o := .cells #[.int .i64 a1_0, .string a1_1, .string a1_2, .string a1_3] 41 (0, 0)) (bk BK161)) : gb161 ≠ gb168)); have n11_ := AM ((by rw [hg]; exact Nat.ne_of_gt (blk_lt (g := gb161) (o := .cells #[.int .i64 a1_0, .string a1_1, .string a1_2, .string a1_3] 41 (0, 0)) (bk BK161)) : gb168 ≠ gb161)); have n12_ := AM ((by rw [hg]; exact Nat.ne_of_lt (blk_lt (g := gb162) (o := .cells #[.slice none 0 0] 30 (0, 0)) (bk BK162)) : gb162 ≠ gb168)); have n13_ := AM ((by rw [hg]; exact Nat.ne_of_gt (blk_lt (g := gb162) (o := .cells #[.slice none 0 0] 30 (0, 0)) (bk BK162)) : gb168 ≠ gb162)); have n14_ := AM ((by rw [hg]; exact Nat.ne_of_lt (blk_lt (g := gb166) (o := .cells #[.string x167000_59, .string x167001_59, .int .i64 x167002_59] 67 (0, 0)) (bk BK166)) : gb166 ≠ gb168)); have n15_ := AM ((by rw [hg]; exact Nat.ne_of_gt (blk_lt (g := gb166) (o := .cells #[.string x167000_59, .string x167001_59, .int .i64 x167002_59] 67 (0, 0)) (bk BK166)) : gb168 ≠ gb166)); clear BK160; clear BK161; clear BK162; clear BK166; clear HB; have BK160 := n0_; have BK161 := n1_; have BK162 := n2_; have BK166 := n3_; have HB := n4_; have BK168 := n5_; have GW168 := n6_; have GE168 := n7_; have NB160_168 := n8_; have NB168_160 := n9_; have NB161_168 := n10_; have NB168_161 := n11_; have NB162_168 := n12_; have NB168_162 := n13_; have NB166_168 := n14_; have NB168_166 := n15_; clear n0_ n1_ n2_ n3_ n4_ n5_ n6_ n7_ n8_ n9_ n10_ n11_ n12_ n13_ n14_ n15_; clear hb hbox hg; have hnb131 := NB168_160.out; have hnc131 := NB160_168.out; have hnb132 := NB168_161.out; have hnc132 := NB161_168.out; have hnb133 := NB168_162.out; have hnc133 := NB162_168.out; have hnb134 := NB168_166.out; have hnc134 := NB166_168.out; have hcz135_0 : w130.cell? ⟨gb168, 0, none⟩ = some (.slice none 0 0) := (blk_cell BK168.out 0).trans rfl; have hfz135_0 := blk_frozen BK168.out 0; have hnb136 := NB161_160.out; have hnc136 := NB160_161.out; have hnb137 := NB161_162.out; have hnc137 := NB162_161.out; have hnb138 := NB161_166.out; have hnc138 := NB166_161.out; have hcz139_0 : w130.cell? ⟨gb161, 0, none⟩ = some (.int .i64 a1_0) := (blk_cell BK161.out 0).trans rfl; have hcz139_1 : w130.cell? ⟨gb161, 1, none⟩ = some (.string a1_1) := (blk_cell BK161.out 1).trans rfl; have hcz139_2 : w130.cell? ⟨gb161, 2, none⟩ = some (.string a1_2) := (blk_cell BK161.out 2).trans rfl; have hcz139_3 : w130.cell? ⟨gb161, 3, none⟩ = some (.string a1_3) := (blk_cell BK161.out 3).trans rfl; have hfz139_0 := blk_frozen BK161.out 0; have hfz139_1 := blk_frozen BK161.out 1; have hfz139_2 := blk_frozen BK161.out 2; have hfz139_3 := blk_frozen BK161.out 3; have hnb140 := NB162_160.out; have hnc140 := NB160_162.out; have hnb141 := NB162_166.out; have hnc141 := NB166_162.out; have hcz142_0 : w130.cell? ⟨gb162, 0, none⟩ = some (.slice none 0 0) := (blk_cell BK162.out 0).trans rfl; have hfz142_0 := blk_frozen BK162.out 0))
      refine bodyPost_ret (results_ct rfl _ _ gb162 30 #[.slice none 0 0] (0, 0) _ rfl (by (with_reducible repeat (first | refine blk_drewN ?_ _ | refine blk_drew ?_ | refine blk_alloc ?_ _)); refine blk_put (cs := #[.slice none 0 0]) ?_ 0 _ rfl; (with_reducible repeat (first | refine blk_drewN ?_ _ | refine blk_drew ?_ | refine blk_alloc ?_ _)); refine blk_far ?_ NB162_168.out _; (with_reducible repeat (first | refine blk_drewN ?_ _ | refine blk_drew ?_ | refine blk_alloc ?_ _)); exact BK162.out) Try.underlying30 rfl (by kernel_rfl)) rfl ?_
      exact ⟨_, by first | rfl | (simp [errW_none, errW_some] <;> rfl) | (simp [*, errW_none, errW_some] <;> rfl), by first | exact Kd.R_nil _ _ _ _ _ | exact Kd.N_nil _ _ _ _ _ | exact Kd.V_nil _ _ _ _ _ | exact Kd.Q_nil _ _ _ _ _ | exact Kd.S_nil _ _ _ _ _, hS⟩
     rw [if_neg c129] at H
     have c129b0 : decide (t165 < 0) = false := decide_eq_false c129
     clear c129
     by_cases c143 : a1_0 = 2
     ·rw [if_pos c143] at H
      have c143b0 : (a1_0 == 2) = true := beq_iff_eq.mpr c143
      have c143b1 : (a1_0 != 2) = false := bne_eq_false_iff_eq.mpr c143
      clear c143
      replace H := bm H
      obtain ⟨t173, A1440, H⟩ := H
      replace H : ((spec_DiskOk.f kj59 t173).bind fun t176 => (if t176 = true then (some (t173, true)) else (some (([] : List (S67)), false)))) = some (r1, r2) := H
      have A144 := AM A1440
      clear A1440
      replace H := bm H
      obtain ⟨t176, A1450, H⟩ := H
      replace H : (if t176 = true then (some (t173, true)) else (some (([] : List (S67)), false))) = some (r1, r2) := H
      have A145 := AM A1450
      clear A1450
      by_cases c146 : t176 = true
      ·subst c146
       have H1 : (some (t173, true)) = some (r1, r2) := by rw [if_pos rfl] at H; exact H
       clear H
       have H := H1
       clear H1
       simp only [Option.some.injEq, Prod.mk.injEq] at H
       obtain ⟨rfl, rfl⟩ := H
       go_wp2_with (first | ((with_reducible refine gate_dst (N := 8) rfl ?_); refine box_event ?hg (N := 8) ?hd (cs := #[.slice none 0 0]) (t := 30) ?hr ?_; (case hd => rfl); (case hg => rfl); (case hr => first | (go_simp; done) | (go_simp; rfl)); intro gb168 hg w147 hbox hb; have n0_ := AM (blk_below (g := gb160) (o := .cells #[.slice A0_0 l0_0.length c0_0] 30 (0, 0)) (bk BK160) hb); have n1_ := AM (blk_below (g := gb161) (o := .cells #[.int .i64 a1_0, .string a1_1, .string a1_2, .string a1_3] 41 (0, 0)) (bk BK161) hb); have n2_ := AM (blk_below (g := gb162) (o := .cells #[.slice none 0 0] 30 (0, 0)) (bk BK162) hb); have n3_ := AM (blk_below (g := gb166) (o := .cells #[.string x167000_59, .string x167001_59, .int .i64 x167002_59] 67 (0, 0)) (bk BK166) hb); have n4_ := AM (below_step (hS) hb); have n5_ := AM (hbox); have n6_ := AM ((by rw [hg]; exact (below_size (hS)) : w.heap.size ≤ gb168)); have n7_ := AM ((by rw [hg]; exact (below_size (hS)) : w.heap.size ≤ gb168)); have n8_ := AM ((by rw [hg]; exact Nat.ne_of_lt (blk_lt (g := gb160) (o := .cells #[.slice A0_0 l0_0.length c0_0] 30 (0, 0)) (bk BK160)) : gb160 ≠ gb168)); have n9_ := AM ((by rw [hg]; exact Nat.ne_of_gt (blk_lt (g := gb160) (o := .cells #[.slice A0_0 l0_0.length c0_0] 30 (0, 0)) (bk BK160)) : gb168 ≠ gb160)); have n10_ := AM ((by rw [hg]; exact Nat.ne_of_lt (blk_lt (g := gb161) (o := .cells #[.int .i64 a1_0, .string a1_1, .string a1_2, .string a1_3] 41 (0, 0)) (bk BK161)) : gb161 ≠ gb168)); have n11_ := AM ((by rw [hg]; exact Nat.ne_of_gt (blk_lt (g := gb161) (o := .cells #[.int .i64 a1_0, .string a1_1, .string a1_2, .string a1_3] 41 (0, 0)) (bk BK161)) : gb168 ≠ gb161)); have n12_ := AM ((by rw [hg]; exact Nat.ne_of_lt (blk_lt (g := gb162) (o := .cells #[.slice none 0 0] 30 (0, 0)) (bk BK162)) : gb162 ≠ gb168)); have n13_ := AM ((by rw [hg]; exact Nat.ne_of_gt (blk_lt (g := gb162) (o := .cells #[.slice none 0 0] 30 (0, 0)) (bk BK162)) : gb168 ≠ gb162)); have n14_ := AM ((by rw [hg]; exact Nat.ne_of_lt (blk_lt (g := gb166) (o := .cells #[.string x167000_59, .string x167001_59, .int .i64 x167002_59] 67 (0, 0)) (bk BK166)) : gb166 ≠ gb168)); have n15_ := AM ((by rw [hg]; exact Nat.ne_of_gt (blk_lt (g := gb166) (o := .cells #[.string x167000_59, .string x167001_59, .int .i64 x167002_59] 67 (0, 0)) (bk BK166)) : gb168 ≠ gb166)); clear BK160; clear BK161; clear BK162; clear BK166; clear HB; have BK160 := n0_; have BK161 := n1_; have BK162 := n2_; have BK166 := n3_; have HB := n4_; have BK168 := n5_; have GW168 := n6_; have GE168 := n7_; have NB160_168 := n8_; have NB168_160 := n9_; have NB161_168 := n10_; have NB168_161 := n11_; have NB162_168 := n12_; have NB168_162 := n13_; have NB166_168 := n14_; have NB168_166 := n15_; clear n0_ n1_ n2_ n3_ n4_ n5_ n6_ n7_ n8_ n9_ n10_ n11_ n12_ n13_ n14_ n15_; clear hb hbox hg; have hnb148 := NB168_160.out; have hnc148 := NB160_168.out; have hnb149 := NB168_161.out; have hnc149 := NB161_168.out; have hnb150 := NB168_162.out; have hnc150 := NB162_168.out; have hnb151 := NB168_166.out; have hnc151 := NB166_168.out; have hcz152_0 : w147.cell? ⟨gb168, 0, none⟩ = some (.slice none 0 0) := (blk_cell BK168.out 0).trans rfl; have hfz152_0 := blk_frozen BK168.out 0; have hnb153 := NB161_160.out; have hnc153 := NB160_161.out; have hnb154 := NB161_162.out; have hnc154 := NB162_161.out; have hnb155 := NB161_166.out; have hnc155 := NB166_161.out; have hcz156_0 : w147.cell? ⟨gb161, 0, none⟩ = some (.int .i64 a1_0) := (blk_cell BK161.out 0).trans rfl; have hcz156_1 : w147.cell? ⟨gb161, 1, none⟩ = some (.string a1_1) := (blk_cell BK161.out 1).trans rfl; have hcz156_2 : w147.cell? ⟨gb161, 2, none⟩ = some (.string a1_2) := (blk_cell BK161.out 2).trans rfl; have hcz156_3 : w147.cell? ⟨gb161, 3, none⟩ = some (.string a1_3) := (blk_cell BK161.out 3).trans rfl; have hfz156_0 := blk_frozen BK161.out 0; have hfz156_1 := blk_frozen BK161.out 1; have hfz156_2 := blk_frozen BK161.out 2; have hfz156_3 := blk_frozen BK161.out 3; have hnb157 := NB166_160.out; have hnc157 := NB160_166.out; have hnb158 := NB166_162.out; have hnc158 := NB162_166.out; have hcz159_0 : w147.cell? ⟨gb166, 0, none⟩ = some (.string x167000_59) := (blk_cell BK166.out 0).trans rfl; have hcz159_1 : w147.cell? ⟨gb166, 1, none⟩ = some (.string x167001_59) := (blk_cell BK166.out 1).trans rfl; have hcz159_2 : w147.cell? ⟨gb166, 2, none⟩ = some (.int .i64 x167002_59) := (blk_cell BK166.out 2).trans rfl; have hfz159_0 := blk_frozen BK166.out 0; have hfz159_1 := blk_frozen BK166.out 1; have hfz159_2 := blk_frozen BK166.out 2; have hnb160 := NB160_162.out; have hnc160 := NB162_160.out; have hcz161_0 : w147.cell? ⟨gb160, 0, none⟩ = some (.slice A0_0 l0_0.length c0_0) := (blk_cell BK160.out 0).trans rfl; have hfz161_0 := blk_frozen BK160.out 0) | ((with_reducible refine gate_callee (f := 46) rfl ?_); refine goesL_ (some 82) rfl rfl Try.func46 (by kernel_rfl) rfl #[.agg #[.slice A0_0 l0_0.length c0_0], .agg #[.string x167000_59, .string x167001_59, .int .i64 (x167001_59.size : Int)]] rfl (by (try simp only [List.map_toArray, List.map_cons, List.map_nil]); first | done | rfl) ?_; (with_reducible refine (spec_l03Put.calls kj59 _ _ l0_0 x167000_59 x167001_59 (x167001_59.size : Int) t173 _ ?side1 ?side2 A144.out).mono ?_); (case side1 => exact Kd.C_below HR0_0.out (hS)); (case side2 => exact HC0_0.out); rintro e w162 ⟨v174, rfl, ho0, hb⟩; refine ⟨_, rfl, ?_⟩; have n0_ := AM (Kd.R_lower (Kd.R_newB ho0 (g := gb166) (o := .cells #[.string x167000_59, .string x167001_59, .int .i64 (x167001_59.size : Int)] 67 (0, 0)) (by (with_reducible repeat (first | refine blk_drewN ?_ _ | refine blk_drew ?_ | refine blk_alloc ?_ _)); refine blk_put (cs := #[.string x167000_59, .string x167001_59, .int .i64 x167002_59]) ?_ 2 _ rfl; (with_reducible repeat (first | refine blk_drewN ?_ _ | refine blk_drew ?_ | refine blk_alloc ?_ _)); refine blk_far ?_ NB166_168.out _; (with_reducible repeat (first | refine blk_drewN ?_ _ | refine blk_drew ?_ | refine blk_alloc ?_ _)); exact BK166.out)) (below_size (hS))); have n1_ := AM (blk_below (g := gb160) (o := .cells #[.slice A0_0 l0_0.length c0_0] 30 (0, 0)) (by (with_reducible repeat (first | refine blk_drewN ?_ _ | refine blk_drew ?_ | refine blk_alloc ?_ _)); refine blk_far ?_ NB160_166.out _; (with_reducible repeat (first | refine blk_drewN ?_ _ | refine blk_drew ?_ | refine blk_alloc ?_ _)); refine blk_far ?_ NB160_168.out _; (with_reducible repeat (first | refine blk_drewN ?_ _ | refine blk_drew ?_ | refine blk_alloc ?_ _)); exact BK160.out) hb); have n2_ := AM (blk_below (g := gb161) (o := .cells #[.int .i64 a1_0, .string a1_1, .string a1_2, .string a1_3] 41 (0, 0)) (by (with_reducible repeat (first | refine blk_drewN ?_ _ | refine blk_drew ?_ | refine blk_alloc ?_ _)); refine blk_far ?_ NB161_166.out _; (with_reducible repeat (first | refine blk_drewN ?_ _ | refine blk_drew ?_ | refine blk_alloc ?_ _)); refine blk_far ?_ NB161_168.out _; (with_reducible repeat (first | refine blk_drewN ?_ _ | refine blk_drew ?_ | refine blk_alloc ?_ _)); exact BK161.out) hb); have n3_ := AM (blk_below (g := gb162) (o := .cells #[.slice none 0 0] 30 (0, 0)) (by (with_reducible repeat (first | refine blk_drewN ?_ _ | refine blk_drew ?_ | refine blk_alloc ?_ _)); refine blk_far ?_ NB162_166.out _; (with_reducible repeat (first | refine blk_drewN ?_ _ | refine blk_drew ?_ | refine blk_alloc ?_ _)); refine blk_far ?_ NB162_168.out _; (with_reducible repeat (first | refine blk_drewN ?_ _ | refine blk_drew ?_ | refine blk_alloc ?_ _)); exact BK162.out) hb); have n4_ := AM (blk_below (g := gb166) (o := .cells #[.string x167000_59, .string x167001_59, .int .i64 (x167001_59.size : Int)] 67 (0, 0)) (by (with_reducible repeat (first | refine blk_drewN ?_ _ | refine blk_drew ?_ | refine blk_alloc ?_ _)); refine blk_put (cs := #[.string x167000_59, .string x167001_59, .int .i64 x167002_59]) ?_ 2 _ rfl; (with_reducible repeat (first | refine blk_drewN ?_ _ | refine blk_drew ?_ | refine blk_alloc ?_ _)); refine blk_far ?_ NB166_168.out _; (with_reducible repeat (first | refine blk_drewN ?_ _ | refine blk_drew ?_ | refine blk_alloc ?_ _)); exact BK166.out) hb); have n5_ := AM (blk_below (g := gb168) (o := .cells #[.slice none 0 0] 30 (0, 0)) (by (with_reducible repeat (first | refine blk_drewN ?_ _ | refine blk_drew ?_ | refine blk_alloc ?_ _)); refine blk_far ?_ NB168_166.out _; (with_reducible repeat (first | refine blk_drewN ?_ _ | refine blk_drew ?_ | refine blk_alloc ?_ _)); refine blk_put (cs := #[.slice none 0 0]) ?_ 0 _ rfl; (with_reducible repeat (first | refine blk_drewN ?_ _ | refine blk_drew ?_ | refine blk_alloc ?_ _)); exact BK168.out) hb); have n6_ := AM (below_step (hS) hb); clear BK160; clear BK161; clear BK162; clear BK166; clear BK168; clear HB; have HO175 := n0_; have BK160 := n1_; have BK161 := n2_; have BK162 := n3_; have BK166 := n4_; have BK168 := n5_; have HB := n6_; clear n0_ n1_ n2_ n3_ n4_ n5_ n6_; (try clear hb); (try clear ho0); obtain ⟨Ao163, co163, eo163⟩ := Kd.R_slice HO175.out; subst eo163; have hcz164_0 : w162.cell? ⟨gb168, 0, none⟩ = some (.slice none 0 0) := (blk_cell BK168.out 0).trans rfl; have hfz164_0 := blk_frozen BK168.out 0) | ((with_reducible refine gate_callee (f := 41) rfl ?_); refine goesL_ (some 125) rfl rfl Try.func41 (by kernel_rfl) rfl #[.agg #[.slice Ao163 t173.length co163]] rfl (by (try simp only [List.map_toArray, List.map_cons, List.map_nil]); first | done | rfl) ?_; (with_reducible refine (spec_DiskOk.calls kj59 _ _ t173 true _ ?side1 ?side2 A145.out).mono ?_); (case side1 => refine (Kd.R_reads' (e := 67) (base := w.heap.size) (ok := fun k_ => (True ∧ k_ ≠ gb166)) (n := t173.length) (c := co163) ?_).2.2; exact (by exact (Kd.R_mono (Kd.R_far (p := ⟨gb168, 0, none⟩) (Kd.R_types HO175.out BK168.out (by decide)) (fun _ hk => hk.2) (.slice Ao163 t173.length co163)) (fun _ h_ => h_.1)))); (case side2 => exact (Kd.R_reads' HO175.out).2.1); rintro e w165 ⟨rfl, hb⟩; refine ⟨_, rfl, ?_⟩; have n0_ := AM (Kd.R_below (by exact (Kd.R_mono (Kd.R_far (p := ⟨gb168, 0, none⟩) (Kd.R_types HO175.out BK168.out (by decide)) (fun _ hk => hk.2) (.slice Ao163 t173.length co163)) (fun _ h_ => h_.1))) hb); have n1_ := AM (blk_below (g := gb160) (o := .cells #[.slice A0_0 l0_0.length c0_0] 30 (0, 0)) (by (with_reducible repeat (first | refine blk_drewN ?_ _ | refine blk_drew ?_ | refine blk_alloc ?_ _)); refine blk_far ?_ NB160_168.out _; (with_reducible repeat (first | refine blk_drewN ?_ _ | refine blk_drew ?_ | refine blk_alloc ?_ _)); exact BK160.out) hb); have n2_ := AM (blk_below (g := gb161) (o := .cells #[.int .i64 a1_0, .string a1_1, .string a1_2, .string a1_3] 41 (0, 0)) (by (with_reducible repeat (first | refine blk_drewN ?_ _ | refine blk_drew ?_ | refine blk_alloc ?_ _)); refine blk_far ?_ NB161_168.out _; (with_reducible repeat (first | refine blk_drewN ?_ _ | refine blk_drew ?_ | refine blk_alloc ?_ _)); exact BK161.out) hb); have n3_ := AM (blk_below (g := gb162) (o := .cells #[.slice none 0 0] 30 (0, 0)) (by (with_reducible repeat (first | refine blk_drewN ?_ _ | refine blk_drew ?_ | refine blk_alloc ?_ _)); refine blk_far ?_ NB162_168.out _; (with_reducible repeat (first | refine blk_drewN ?_ _ | refine blk_drew ?_ | refine blk_alloc ?_ _)); exact BK162.out) hb); have n4_ := AM (blk_below (g := gb166) (o := .cells #[.string x167000_59, .string x167001_59, .int .i64 (x167001_59.size : Int)] 67 (0, 0)) (by (with_reducible repeat (first | refine blk_drewN ?_ _ | refine blk_drew ?_ | refine blk_alloc ?_ _)); refine blk_far ?_ NB166_168.out _; (with_reducible repeat (first | refine blk_drewN ?_ _ | refine blk_drew ?_ | refine blk_alloc ?_ _)); exact BK166.out) hb); have n5_ := AM (blk_below (g := gb168) (o := .cells #[.slice Ao163 t173.length co163] 30 (0, 0)) (by (with_reducible repeat (first | refine blk_drewN ?_ _ | refine blk_drew ?_ | refine blk_alloc ?_ _)); refine blk_put (cs := #[.slice none 0 0]) ?_ 0 _ rfl; (with_reducible repeat (first | refine blk_drewN ?_ _ | refine blk_drew ?_ | refine blk_alloc ?_ _)); exact BK168.out) hb); have n6_ := AM (below_step (hS) hb); clear HO175; clear BK160; clear BK161; clear BK162; clear BK166; clear BK168; clear HB; have HO175 := n0_; have BK160 := n1_; have BK161 := n2_; have BK162 := n3_; have BK166 := n4_; have BK168 := n5_; have HB := n6_; clear n0_ n1_ n2_ n3_ n4_ n5_ n6_; (try clear hb); (try clear hk); have hcz166_0 : w165.cell? ⟨gb168, 0, none⟩ = some (.slice Ao163 t173.length co163) := (blk_cell BK168.out 0).trans rfl; have hfz166_0 := blk_frozen BK168.out 0; have hcz167_0 : w165.cell? ⟨gb162, 0, none⟩ = some (.slice none 0 0) := (blk_cell BK162.out 0).trans rfl; have hfz167_0 := blk_frozen BK162.out 0))
       refine bodyPost_ret (results_ct rfl _ _ gb162 30 #[.slice Ao163 t173.length co163] (0, 0) _ rfl (by (with_reducible repeat (first | refine blk_drewN ?_ _ | refine blk_drew ?_ | refine blk_alloc ?_ _)); refine blk_put (cs := #[.slice none 0 0]) ?_ 0 _ rfl; (with_reducible repeat (first | refine blk_drewN ?_ _ | refine blk_drew ?_ | refine blk_alloc ?_ _)); exact BK162.out) Try.underlying30 rfl (by kernel_rfl)) rfl ?_
       exact ⟨_, by first | rfl | (simp [errW_none, errW_some] <;> rfl) | (simp [*, errW_none, errW_some] <;> rfl), by exact Kd.R_mono (Kd.R_far (p := ⟨gb162, 0, none⟩) (Kd.R_types HO175.out BK162.out (by decide)) (fun _ hk => hk.2) (.slice Ao163 t173.length co163)) (fun _ hk => trivial), hS⟩
      replace c146 := Bool.eq_false_iff.mpr c146
      subst c146
      have H1 : (some (([] : List (S67)), false)) = some (r1, r2) := by rw [if_neg (show ¬ (false = true) by decide)] at H; exact H
      clear H
      have H := H1
      clear H1
      simp only [Option.some.injEq, Prod.mk.injEq] at H
      obtain ⟨rfl, rfl⟩ := H
      go_wp2_with (first | ((with_reducible refine gate_dst (N := 8) rfl ?_); refine box_event ?hg (N := 8) ?hd (cs := #[.slice none 0 0]) (t := 30) ?hr ?_; (case hd => rfl); (case hg => rfl); (case hr => first | (go_simp; done) | (go_simp; rfl)); intro gb168 hg w168 hbox hb; have n0_ := AM (blk_below (g := gb160) (o := .cells #[.slice A0_0 l0_0.length c0_0] 30 (0, 0)) (bk BK160) hb); have n1_ := AM (blk_below (g := gb161) (o := .cells #[.int .i64 a1_0, .string a1_1, .string a1_2, .string a1_3] 41 (0, 0)) (bk BK161) hb); have n2_ := AM (blk_below (g := gb162) (o := .cells #[.slice none 0 0] 30 (0, 0)) (bk BK162) hb); have n3_ := AM (blk_below (g := gb166) (o := .cells #[.string x167000_59, .string x167001_59, .int .i64 x167002_59] 67 (0, 0)) (bk BK166) hb); have n4_ := AM (below_step (hS) hb); have n5_ := AM (hbox); have n6_ := AM ((by rw [hg]; exact (below_size (hS)) : w.heap.size ≤ gb168)); have n7_ := AM ((by rw [hg]; exact (below_size (hS)) : w.heap.size ≤ gb168)); have n8_ := AM ((by rw [hg]; exact Nat.ne_of_lt (blk_lt (g := gb160) (o := .cells #[.slice A0_0 l0_0.length c0_0] 30 (0, 0)) (bk BK160)) : gb160 ≠ gb168)); have n9_ := AM ((by rw [hg]; exact Nat.ne_of_gt (blk_lt (g := gb160) (o := .cells #[.slice A0_0 l0_0.length c0_0] 30 (0, 0)) (bk BK160)) : gb168 ≠ gb160)); have n10_ := AM ((by rw [hg]; exact Nat.ne_of_lt (blk_lt (g := gb161) (o := .cells #[.int .i64 a1_0, .string a1_1, .string a1_2, .string a1_3] 41 (0, 0)) (bk BK161)) : gb161 ≠ gb168)); have n11_ := AM ((by rw [hg]; exact Nat.ne_of_gt (blk_lt (g := gb161) (o := .cells #[.int .i64 a1_0, .string a1_1, .string a1_2, .string a1_3] 41 (0, 0)) (bk BK161)) : gb168 ≠ gb161)); have n12_ := AM ((by rw [hg]; exact Nat.ne_of_lt (blk_lt (g := gb162) (o := .cells #[.slice none 0 0] 30 (0, 0)) (bk BK162)) : gb162 ≠ gb168)); have n13_ := AM ((by rw [hg]; exact Nat.ne_of_gt (blk_lt (g := gb162) (o := .cells #[.slice none 0 0] 30 (0, 0)) (bk BK162)) : gb168 ≠ gb162)); have n14_ := AM ((by rw [hg]; exact Nat.ne_of_lt (blk_lt (g := gb166) (o := .cells #[.string x167000_59, .string x167001_59, .int .i64 x167002_59] 67 (0, 0)) (bk BK166)) : gb166 ≠ gb168)); have n15_ := AM ((by rw [hg]; exact Nat.ne_of_gt (blk_lt (g := gb166) (o := .cells #[.string x167000_59, .string x167001_59, .int .i64 x167002_59] 67 (0, 0)) (bk BK166)) : gb168 ≠ gb166)); clear BK160; clear BK161; clear BK162; clear BK166; clear HB; have BK160 := n0_; have BK161 := n1_; have BK162 := n2_; have BK166 := n3_; have HB := n4_; have BK168 := n5_; have GW168 := n6_; have GE168 := n7_; have NB160_168 := n8_; have NB168_160 := n9_; have NB161_168 := n10_; have NB168_161 := n11_; have NB162_168 := n12_; have NB168_162 := n13_; have NB166_168 := n14_; have NB168_166 := n15_; clear n0_ n1_ n2_ n3_ n4_ n5_ n6_ n7_ n8_ n9_ n10_ n11_ n12_ n13_ n14_ n15_; clear hb hbox hg; have hnb169 := NB168_160.out; have hnc169 := NB160_168.out; have hnb170 := NB168_161.out; have hnc170 := NB161_168.out; have hnb171 := NB168_162.out; have hnc171 := NB162_168.out; have hnb172 := NB168_166.out; have hnc172 := NB166_168.out; have hcz173_0 : w168.cell? ⟨gb168, 0, none⟩ = some (.slice none 0 0) := (blk_cell BK168.out 0).trans rfl; have hfz173_0 := blk_frozen BK168.out 0; have hnb174 := NB161_160.out; have hnc174 := NB160_161.out; have hnb175 := NB161_162.out; have hnc175 := NB162_161.out; have hnb176 := NB161_166.out; have hnc176 := NB166_161.out; have hcz177_0 : w168.cell? ⟨gb161, 0, none⟩ = some (.int .i64 a1_0) := (blk_cell BK161.out 0).trans rfl; have hcz177_1 : w168.cell? ⟨gb161, 1, none⟩ = some (.string a1_1) := (blk_cell BK161.out 1).trans rfl; have hcz177_2 : w168.cell? ⟨gb161, 2, none⟩ = some (.string a1_2) := (blk_cell BK161.out 2).trans rfl; have hcz177_3 : w168.cell? ⟨gb161, 3, none⟩ = some (.string a1_3) := (blk_cell BK161.out 3).trans rfl; have hfz177_0 := blk_frozen BK161.out 0; have hfz177_1 := blk_frozen BK161.out 1; have hfz177_2 := blk_frozen BK161.out 2; have hfz177_3 := blk_frozen BK161.out 3; have hnb178 := NB166_160.out; have hnc178 := NB160_166.out; have hnb179 := NB166_162.out; have hnc179 := NB162_166.out; have hcz180_0 : w168.cell? ⟨gb166, 0, none⟩ = some (.string x167000_59) := (blk_cell BK166.out 0).trans rfl; have hcz180_1 : w168.cell? ⟨gb166, 1, none⟩ = some (.string x167001_59) := (blk_cell BK166.out 1).trans rfl; have hcz180_2 : w168.cell? ⟨gb166, 2, none⟩ = some (.int .i64 x167002_59) := (blk_cell BK166.out 2).trans rfl; have hfz180_0 := blk_frozen BK166.out 0; have hfz180_1 := blk_frozen BK166.out 1; have hfz180_2 := blk_frozen BK166.out 2; have hnb181 := NB160_162.out; have hnc181 := NB162_160.out; have hcz182_0 : w168.cell? ⟨gb160, 0, none⟩ = some (.slice A0_0 l0_0.length c0_0) := (blk_cell BK160.out 0).trans rfl; have hfz182_0 := blk_frozen BK160.out 0) | ((with_reducible refine gate_callee (f := 46) rfl ?_); refine goesL_ (some 82) rfl rfl Try.func46 (by kernel_rfl) rfl #[.agg #[.slice A0_0 l0_0.length c0_0], .agg #[.string x167000_59, .string x167001_59, .int .i64 (x167001_59.size : Int)]] rfl (by (try simp only [List.map_toArray, List.map_cons, List.map_nil]); first | done | rfl) ?_; (with_reducible refine (spec_l03Put.calls kj59 _ _ l0_0 x167000_59 x167001_59 (x167001_59.size : Int) t173 _ ?side1 ?side2 A144.out).mono ?_); (case side1 => exact Kd.C_below HR0_0.out (hS)); (case side2 => exact HC0_0.out); rintro e w183 ⟨v174, rfl, ho0, hb⟩; refine ⟨_, rfl, ?_⟩; have n0_ := AM (Kd.R_lower (Kd.R_newB ho0 (g := gb166) (o := .cells #[.string x167000_59, .string x167001_59, .int .i64 (x167001_59.size : Int)] 67 (0, 0)) (by (with_reducible repeat (first | refine blk_drewN ?_ _ | refine blk_drew ?_ | refine blk_alloc ?_ _)); refine blk_put (cs := #[.string x167000_59, .string x167001_59, .int .i64 x167002_59]) ?_ 2 _ rfl; (with_reducible repeat (first | refine blk_drewN ?_ _ | refine blk_drew ?_ | refine blk_alloc ?_ _)); refine blk_far ?_ NB166_168.out _; (with_reducible repeat (first | refine blk_drewN ?_ _ | refine blk_drew ?_ | refine blk_alloc ?_ _)); exact BK166.out)) (below_size (hS))); have n1_ := AM (blk_below (g := gb160) (o := .cells #[.slice A0_0 l0_0.length c0_0] 30 (0, 0)) (by (with_reducible repeat (first | refine blk_drewN ?_ _ | refine blk_drew ?_ | refine blk_alloc ?_ _)); refine blk_far ?_ NB160_166.out _; (with_reducible repeat (first | refine blk_drewN ?_ _ | refine blk_drew ?_ | refine blk_alloc ?_ _)); refine blk_far ?_ NB160_168.out _; (with_reducible repeat (first | refine blk_drewN ?_ _ | refine blk_drew ?_ | refine blk_alloc ?_ _)); exact BK160.out) hb); have n2_ := AM (blk_below (g := gb161) (o := .cells #[.int .i64 a1_0, .string a1_1, .string a1_2, .string a1_3] 41 (0, 0)) (by (with_reducible repeat (first | refine blk_drewN ?_ _ | refine blk_drew ?_ | refine blk_alloc ?_ _)); refine blk_far ?_ NB161_166.out _; (with_reducible repeat (first | refine blk_drewN ?_ _ | refine blk_drew ?_ | refine blk_alloc ?_ _)); refine blk_far ?_ NB161_168.out _; (with_reducible repeat (first | refine blk_drewN ?_ _ | refine blk_drew ?_ | refine blk_alloc ?_ _)); exact BK161.out) hb); have n3_ := AM (blk_below (g := gb162) (o := .cells #[.slice none 0 0] 30 (0, 0)) (by (with_reducible repeat (first | refine blk_drewN ?_ _ | refine blk_drew ?_ | refine blk_alloc ?_ _)); refine blk_far ?_ NB162_166.out _; (with_reducible repeat (first | refine blk_drewN ?_ _ | refine blk_drew ?_ | refine blk_alloc ?_ _)); refine blk_far ?_ NB162_168.out _; (with_reducible repeat (first | refine blk_drewN ?_ _ | refine blk_drew ?_ | refine blk_alloc ?_ _)); exact BK162.out) hb); have n4_ := AM (blk_below (g := gb166) (o := .cells #[.string x167000_59, .string x167001_59, .int .i64 (x167001_59.size : Int)] 67 (0, 0)) (by (with_reducible repeat (first | refine blk_drewN ?_ _ | refine blk_drew ?_ | refine blk_alloc ?_ _)); refine blk_put (cs := #[.string x167000_59, .string x167001_59, .int .i64 x167002_59]) ?_ 2 _ rfl; (with_reducible repeat (first | refine blk_drewN ?_ _ | refine blk_drew ?_ | refine blk_alloc ?_ _)); refine blk_far ?_ NB166_168.out _; (with_reducible repeat (first | refine blk_drewN ?_ _ | refine blk_drew ?_ | refine blk_alloc ?_ _)); exact BK166.out) hb); have n5_ := AM (blk_below (g := gb168) (o := .cells #[.slice none 0 0] 30 (0, 0)) (by (with_reducible repeat (first | refine blk_drewN ?_ _ | refine blk_drew ?_ | refine blk_alloc ?_ _)); refine blk_far ?_ NB168_166.out _; (with_reducible repeat (first | refine blk_drewN ?_ _ | refine blk_drew ?_ | refine blk_alloc ?_ _)); refine blk_put (cs := #[.slice none 0 0]) ?_ 0 _ rfl; (with_reducible repeat (first | refine blk_drewN ?_ _ | refine blk_drew ?_ | refine blk_alloc ?_ _)); exact BK168.out) hb); have n6_ := AM (below_step (hS) hb); clear BK160; clear BK161; clear BK162; clear BK166; clear BK168; clear HB; have HO175 := n0_; have BK160 := n1_; have BK161 := n2_; have BK162 := n3_; have BK166 := n4_; have BK168 := n5_; have HB := n6_; clear n0_ n1_ n2_ n3_ n4_ n5_ n6_; (try clear hb); (try clear ho0); obtain ⟨Ao184, co184, eo184⟩ := Kd.R_slice HO175.out; subst eo184; have hcz185_0 : w183.cell? ⟨gb168, 0, none⟩ = some (.slice none 0 0) := (blk_cell BK168.out 0).trans rfl; have hfz185_0 := blk_frozen BK168.out 0) | ((with_reducible refine gate_callee (f := 41) rfl ?_); refine goesL_ (some 125) rfl rfl Try.func41 (by kernel_rfl) rfl #[.agg #[.slice Ao184 t173.length co184]] rfl (by (try simp only [List.map_toArray, List.map_cons, List.map_nil]); first | done | rfl) ?_; (with_reducible refine (spec_DiskOk.calls kj59 _ _ t173 false _ ?side1 ?side2 A145.out).mono ?_); (case side1 => refine (Kd.R_reads' (e := 67) (base := w.heap.size) (ok := fun k_ => (True ∧ k_ ≠ gb166)) (n := t173.length) (c := co184) ?_).2.2; exact (by exact (Kd.R_mono (Kd.R_far (p := ⟨gb168, 0, none⟩) (Kd.R_types HO175.out BK168.out (by decide)) (fun _ hk => hk.2) (.slice Ao184 t173.length co184)) (fun _ h_ => h_.1)))); (case side2 => exact (Kd.R_reads' HO175.out).2.1); rintro e w186 ⟨rfl, hb⟩; refine ⟨_, rfl, ?_⟩; have n0_ := AM (Kd.R_below (by exact (Kd.R_mono (Kd.R_far (p := ⟨gb168, 0, none⟩) (Kd.R_types HO175.out BK168.out (by decide)) (fun _ hk => hk.2) (.slice Ao184 t173.length co184)) (fun _ h_ => h_.1))) hb); have n1_ := AM (blk_below (g := gb160) (o := .cells #[.slice A0_0 l0_0.length c0_0] 30 (0, 0)) (by (with_reducible repeat (first | refine blk_drewN ?_ _ | refine blk_drew ?_ | refine blk_alloc ?_ _)); refine blk_far ?_ NB160_168.out _; (with_reducible repeat (first | refine blk_drewN ?_ _ | refine blk_drew ?_ | refine blk_alloc ?_ _)); exact BK160.out) hb); have n2_ := AM (blk_below (g := gb161) (o := .cells #[.int .i64 a1_0, .string a1_1, .string a1_2, .string a1_3] 41 (0, 0)) (by (with_reducible repeat (first | refine blk_drewN ?_ _ | refine blk_drew ?_ | refine blk_alloc ?_ _)); refine blk_far ?_ NB161_168.out _; (with_reducible repeat (first | refine blk_drewN ?_ _ | refine blk_drew ?_ | refine blk_alloc ?_ _)); exact BK161.out) hb); have n3_ := AM (blk_below (g := gb162) (o := .cells #[.slice none 0 0] 30 (0, 0)) (by (with_reducible repeat (first | refine blk_drewN ?_ _ | refine blk_drew ?_ | refine blk_alloc ?_ _)); refine blk_far ?_ NB162_168.out _; (with_reducible repeat (first | refine blk_drewN ?_ _ | refine blk_drew ?_ | refine blk_alloc ?_ _)); exact BK162.out) hb); have n4_ := AM (blk_below (g := gb166) (o := .cells #[.string x167000_59, .string x167001_59, .int .i64 (x167001_59.size : Int)] 67 (0, 0)) (by (with_reducible repeat (first | refine blk_drewN ?_ _ | refine blk_drew ?_ | refine blk_alloc ?_ _)); refine blk_far ?_ NB166_168.out _; (with_reducible repeat (first | refine blk_drewN ?_ _ | refine blk_drew ?_ | refine blk_alloc ?_ _)); exact BK166.out) hb); have n5_ := AM (blk_below (g := gb168) (o := .cells #[.slice Ao184 t173.length co184] 30 (0, 0)) (by (with_reducible repeat (first | refine blk_drewN ?_ _ | refine blk_drew ?_ | refine blk_alloc ?_ _)); refine blk_put (cs := #[.slice none 0 0]) ?_ 0 _ rfl; (with_reducible repeat (first | refine blk_drewN ?_ _ | refine blk_drew ?_ | refine blk_alloc ?_ _)); exact BK168.out) hb); have n6_ := AM (below_step (hS) hb); clear HO175; clear BK160; clear BK161; clear BK162; clear BK166; clear BK168; clear HB; have HO175 := n0_; have BK160 := n1_; have BK161 := n2_; have BK162 := n3_; have BK166 := n4_; have BK168 := n5_; have HB := n6_; clear n0_ n1_ n2_ n3_ n4_ n5_ n6_; (try clear hb); (try clear hk); have hcz187_0 : w186.cell? ⟨gb162, 0, none⟩ = some (.slice none 0 0) := (blk_cell BK162.out 0).trans rfl; have hfz187_0 := blk_frozen BK162.out 0))
      refine bodyPost_ret (results_ct rfl _ _ gb162 30 #[.slice none 0 0] (0, 0) _ rfl (by (with_reducible repeat (first | refine blk_drewN ?_ _ | refine blk_drew ?_ | refine blk_alloc ?_ _)); refine blk_put (cs := #[.slice none 0 0]) ?_ 0 _ rfl; (with_reducible repeat (first | refine blk_drewN ?_ _ | refine blk_drew ?_ | refine blk_alloc ?_ _)); exact BK162.out) Try.underlying30 rfl (by kernel_rfl)) rfl ?_
      exact ⟨_, by first | rfl | (simp [errW_none, errW_some] <;> rfl) | (simp [*, errW_none, errW_some] <;> rfl), by first | exact Kd.R_nil _ _ _ _ _ | exact Kd.N_nil _ _ _ _ _ | exact Kd.V_nil _ _ _ _ _ | exact Kd.Q_nil _ _ _ _ _ | exact Kd.S_nil _ _ _ _ _, hS⟩
     rw [if_neg c143] at H
     have c143b0 : (a1_0 == 2) = false := beq_eq_false_iff_ne.mpr c143
     have c143b1 : (a1_0 != 2) = true := bne_iff_ne.mpr c143
     by_cases c188 : a1_0 = 3
     ·rw [if_pos c188] at H
      have c188b0 : (a1_0 == 3) = true := beq_iff_eq.mpr c188
      have c188b1 : (a1_0 != 3) = false := bne_eq_false_iff_eq.mpr c188
      clear c188
      have HC189 := AM H
      clear H
      go_upto_region 18 with (first | ((with_reducible refine gate_dst (N := 8) rfl ?_); refine box_event ?hg (N := 8) ?hd (cs := #[.slice none 0 0]) (t := 30) ?hr ?_; (case hd => rfl); (case hg => rfl); (case hr => first | (go_simp; done) | (go_simp; rfl)); intro gb168 hg w190 hbox hb; have n0_ := AM (blk_below (g := gb160) (o := .cells #[.slice A0_0 l0_0.length c0_0] 30 (0, 0)) (bk BK160) hb); have n1_ := AM (blk_below (g := gb161) (o := .cells #[.int .i64 a1_0, .string a1_1, .string a1_2, .string a1_3] 41 (0, 0)) (bk BK161) hb); have n2_ := AM (blk_below (g := gb162) (o := .cells #[.slice none 0 0] 30 (0, 0)) (bk BK162) hb); have n3_ := AM (blk_below (g := gb166) (o := .cells #[.string x167000_59, .string x167001_59, .int .i64 x167002_59] 67 (0, 0)) (bk BK166) hb); have n4_ := AM (below_step (hS) hb); have n5_ := AM (hbox); have n6_ := AM ((by rw [hg]; exact (below_size (hS)) : w.heap.size ≤ gb168)); have n7_ := AM ((by rw [hg]; exact (below_size (hS)) : w.heap.size ≤ gb168)); have n8_ := AM ((by rw [hg]; exact Nat.ne_of_lt (blk_lt (g := gb160) (o := .cells #[.slice A0_0 l0_0.length c0_0] 30 (0, 0)) (bk BK160)) : gb160 ≠ gb168)); have n9_ := AM ((by rw [hg]; exact Nat.ne_of_gt (blk_lt (g := gb160) (o := .cells #[.slice A0_0 l0_0.length c0_0] 30 (0, 0)) (bk BK160)) : gb168 ≠ gb160)); have n10_ := AM ((by rw [hg]; exact Nat.ne_of_lt (blk_lt (g := gb161) (o := .cells #[.int .i64 a1_0, .string a1_1, .string a1_2, .string a1_3] 41 (0, 0)) (bk BK161)) : gb161 ≠ gb168)); have n11_ := AM ((by rw [hg]; exact Nat.ne_of_gt (blk_lt (g := gb161) (o := .cells #[.int .i64 a1_0, .string a1_1, .string a1_2, .string a1_3] 41 (0, 0)) (bk BK161)) : gb168 ≠ gb161)); have n12_ := AM ((by rw [hg]; exact Nat.ne_of_lt (blk_lt (g := gb162) (o := .cells #[.slice none 0 0] 30 (0, 0)) (bk BK162)) : gb162 ≠ gb168)); have n13_ := AM ((by rw [hg]; exact Nat.ne_of_gt (blk_lt (g := gb162) (o := .cells #[.slice none 0 0] 30 (0, 0)) (bk BK162)) : gb168 ≠ gb162)); have n14_ := AM ((by rw [hg]; exact Nat.ne_of_lt (blk_lt (g := gb166) (o := .cells #[.string x167000_59, .string x167001_59, .int .i64 x167002_59] 67 (0, 0)) (bk BK166)) : gb166 ≠ gb168)); have n15_ := AM ((by rw [hg]; exact Nat.ne_of_gt (blk_lt (g := gb166) (o := .cells #[.string x167000_59, .string x167001_59, .int .i64 x167002_59] 67 (0, 0)) (bk BK166)) : gb168 ≠ gb166)); clear BK160; clear BK161; clear BK162; clear BK166; clear HB; have BK160 := n0_; have BK161 := n1_; have BK162 := n2_; have BK166 := n3_; have HB := n4_; have BK168 := n5_; have GW168 := n6_; have GE168 := n7_; have NB160_168 := n8_; have NB168_160 := n9_; have NB161_168 := n10_; have NB168_161 := n11_; have NB162_168 := n12_; have NB168_162 := n13_; have NB166_168 := n14_; have NB168_166 := n15_; clear n0_ n1_ n2_ n3_ n4_ n5_ n6_ n7_ n8_ n9_ n10_ n11_ n12_ n13_ n14_ n15_; clear hb hbox hg; have hnb191 := NB168_160.out; have hnc191 := NB160_168.out; have hnb192 := NB168_161.out; have hnc192 := NB161_168.out; have hnb193 := NB168_162.out; have hnc193 := NB162_168.out; have hnb194 := NB168_166.out; have hnc194 := NB166_168.out; have hcz195_0 : w190.cell? ⟨gb168, 0, none⟩ = some (.slice none 0 0) := (blk_cell BK168.out 0).trans rfl; have hfz195_0 := blk_frozen BK168.out 0; have hnb196 := NB161_160.out; have hnc196 := NB160_161.out; have hnb197 := NB161_162.out; have hnc197 := NB162_161.out; have hnb198 := NB161_166.out; have hnc198 := NB166_161.out; have hcz199_0 : w190.cell? ⟨gb161, 0, none⟩ = some (.int .i64 a1_0) := (blk_cell BK161.out 0).trans rfl; have hcz199_1 : w190.cell? ⟨gb161, 1, none⟩ = some (.string a1_1) := (blk_cell BK161.out 1).trans rfl; have hcz199_2 : w190.cell? ⟨gb161, 2, none⟩ = some (.string a1_2) := (blk_cell BK161.out 2).trans rfl; have hcz199_3 : w190.cell? ⟨gb161, 3, none⟩ = some (.string a1_3) := (blk_cell BK161.out 3).trans rfl; have hfz199_0 := blk_frozen BK161.out 0; have hfz199_1 := blk_frozen BK161.out 1; have hfz199_2 := blk_frozen BK161.out 2; have hfz199_3 := blk_frozen BK161.out 3))
      (try simp only [Act.put, qT, q0, qS])
      go_cut [105] (fun v105 wc => ∃ (kq : Nat) (x105_188 : Bool), v105 = .bool x105_188 ∧ Aside0 (spec_DoAct.j2 kq x105_188 l0_0 a1_0 a1_1 a1_2 a1_3 x167000_59 x167001_59 x167002_59 = some (r1, r2)) ∧ Aside0 (kq ≤ kj59) ∧ Aside0 (wc.heap[gb160]? = some (.cells #[(.slice A0_0 l0_0.length c0_0)] 30 (0, 0))) ∧ Aside0 (wc.heap[gb161]? = some (.cells #[.int .i64 a1_0, .string a1_1, .string a1_2, .string a1_3] 41 (0, 0))) ∧ Aside0 (wc.heap[gb162]? = some (.cells #[(.slice none 0 0)] 30 (0, 0))) ∧ Aside0 (wc.heap[gb166]? = some (.cells #[.string x167000_59, .string x167001_59, .int .i64 x167002_59] 67 (0, 0))) ∧ Aside0 (wc.heap[gb168]? = some (.cells #[(.slice none 0 0)] 30 (0, 0))) ∧ Aside0 (Below w.heap.size w wc))
      case first =>
       have H := HC189.out
       clear HC189
       by_cases c200 : x167002_59 < (x167001_59.size : Int)
       ·rw [if_pos c200] at H
        have c200b0 : decide (x167002_59 < (x167001_59.size : Int)) = true := decide_eq_true c200
        clear c200
        (first | rw [c200b0] | (simp only [i64_w, i32_w]; rw [c200b0]) | rw [c200b1] | skip)
        have H' := AM H
        clear H
        have hnb201 := NB166_160.out
        have hnc201 := NB160_166.out
        have hnb202 := NB166_161.out
        have hnc202 := NB161_166.out
        have hnb203 := NB166_162.out
        have hnc203 := NB162_166.out
        have hnb204 := NB166_168.out
        have hnc204 := NB168_166.out
        have hcz205_0 : w190.cell? ⟨gb166, 0, none⟩ = some (.string x167000_59) := (blk_cell BK166.out 0).trans rfl
        have hcz205_1 : w190.cell? ⟨gb166, 1, none⟩ = some (.string x167001_59) := (blk_cell BK166.out 1).trans rfl
        have hcz205_2 : w190.cell? ⟨gb166, 2, none⟩ = some (.int .i64 x167002_59) := (blk_cell BK166.out 2).trans rfl
        have hfz205_0 := blk_frozen BK166.out 0
        have hfz205_1 := blk_frozen BK166.out 1
        have hfz205_2 := blk_frozen BK166.out 2
        go_wp2
        go_meet
        case rel => exact ⟨_, (true), (by first | rfl | (simp; done) | (simp [*]; done) | (generalize ByteArray.toList a1_2 = q_; cases q_ <;> first | rfl | (simp; done))), H', ⟨by have := HJ2.out; have := HJ59.out; first | omega | exact Nat.le_refl _⟩, ⟨by (with_reducible repeat (first | refine blk_drewN ?_ _ | refine blk_drew ?_ | refine blk_alloc ?_ _)); refine blk_far ?_ NB160_168.out _; (with_reducible repeat (first | refine blk_drewN ?_ _ | refine blk_drew ?_ | refine blk_alloc ?_ _)); exact BK160.out⟩, ⟨by (with_reducible repeat (first | refine blk_drewN ?_ _ | refine blk_drew ?_ | refine blk_alloc ?_ _)); refine blk_far ?_ NB161_168.out _; (with_reducible repeat (first | refine blk_drewN ?_ _ | refine blk_drew ?_ | refine blk_alloc ?_ _)); exact BK161.out⟩, ⟨by (with_reducible repeat (first | refine blk_drewN ?_ _ | refine blk_drew ?_ | refine blk_alloc ?_ _)); refine blk_far ?_ NB162_168.out _; (with_reducible repeat (first | refine blk_drewN ?_ _ | refine blk_drew ?_ | refine blk_alloc ?_ _)); exact BK162.out⟩, ⟨by (with_reducible repeat (first | refine blk_drewN ?_ _ | refine blk_drew ?_ | refine blk_alloc ?_ _)); refine blk_far ?_ NB166_168.out _; (with_reducible repeat (first | refine blk_drewN ?_ _ | refine blk_drew ?_ | refine blk_alloc ?_ _)); exact BK166.out⟩, ⟨by (with_reducible repeat (first | refine blk_drewN ?_ _ | refine blk_drew ?_ | refine blk_alloc ?_ _)); refine blk_put (cs := #[.slice none 0 0]) ?_ 0 _ rfl; (with_reducible repeat (first | refine blk_drewN ?_ _ | refine blk_drew ?_ | refine blk_alloc ?_ _)); exact BK168.out⟩, ⟨hS⟩⟩
       rw [if_neg c200] at H
       have c200b0 : decide (x167002_59 < (x167001_59.size : Int)) = false := decide_eq_false c200
       clear c200
       (first | rw [c200b0] | (simp only [i64_w, i32_w]; rw [c200b0]) | rw [c200b1] | skip)
       by_cases c206 : a1_3.toList = a1_1.toList
       ·rw [if_pos c206] at H
        have c206b0 : (a1_3.toList == a1_1.toList) = true := beq_iff_eq.mpr c206
        have c206b1 : (a1_3.toList != a1_1.toList) = false := bne_eq_false_iff_eq.mpr c206
        clear c206
        have H' := AM H
        clear H
        have hnb207 := NB166_160.out
        have hnc207 := NB160_166.out
        have hnb208 := NB166_161.out
        have hnc208 := NB161_166.out
        have hnb209 := NB166_162.out
        have hnc209 := NB162_166.out
        have hnb210 := NB166_168.out
        have hnc210 := NB168_166.out
        have hcz211_0 : w190.cell? ⟨gb166, 0, none⟩ = some (.string x167000_59) := (blk_cell BK166.out 0).trans rfl
        have hcz211_1 : w190.cell? ⟨gb166, 1, none⟩ = some (.string x167001_59) := (blk_cell BK166.out 1).trans rfl
        have hcz211_2 : w190.cell? ⟨gb166, 2, none⟩ = some (.int .i64 x167002_59) := (blk_cell BK166.out 2).trans rfl
        have hfz211_0 := blk_frozen BK166.out 0
        have hfz211_1 := blk_frozen BK166.out 1
        have hfz211_2 := blk_frozen BK166.out 2
        have hnb212 := NB161_160.out
        have hnc212 := NB160_161.out
        have hnb213 := NB161_162.out
        have hnc213 := NB162_161.out
        have hnb214 := NB161_168.out
        have hnc214 := NB168_161.out
        have hcz215_0 : w190.cell? ⟨gb161, 0, none⟩ = some (.int .i64 a1_0) := (blk_cell BK161.out 0).trans rfl
        have hcz215_1 : w190.cell? ⟨gb161, 1, none⟩ = some (.string a1_1) := (blk_cell BK161.out 1).trans rfl
        have hcz215_2 : w190.cell? ⟨gb161, 2, none⟩ = some (.string a1_2) := (blk_cell BK161.out 2).trans rfl
        have hcz215_3 : w190.cell? ⟨gb161, 3, none⟩ = some (.string a1_3) := (blk_cell BK161.out 3).trans rfl
        have hfz215_0 := blk_frozen BK161.out 0
        have hfz215_1 := blk_frozen BK161.out 1
        have hfz215_2 := blk_frozen BK161.out 2
        have hfz215_3 := blk_frozen BK161.out 3
        go_wp2
        go_meet
        case rel => exact ⟨_, (true), (by first | rfl | (simp; done) | (simp [*]; done) | (generalize ByteArray.toList a1_2 = q_; cases q_ <;> first | rfl | (simp; done))), H', ⟨by have := HJ2.out; have := HJ59.out; first | omega | exact Nat.le_refl _⟩, ⟨by (with_reducible repeat (first | refine blk_drewN ?_ _ | refine blk_drew ?_ | refine blk_alloc ?_ _)); refine blk_far ?_ NB160_168.out _; (with_reducible repeat (first | refine blk_drewN ?_ _ | refine blk_drew ?_ | refine blk_alloc ?_ _)); exact BK160.out⟩, ⟨by (with_reducible repeat (first | refine blk_drewN ?_ _ | refine blk_drew ?_ | refine blk_alloc ?_ _)); refine blk_far ?_ NB161_168.out _; (with_reducible repeat (first | refine blk_drewN ?_ _ | refine blk_drew ?_ | refine blk_alloc ?_ _)); exact BK161.out⟩, ⟨by (with_reducible repeat (first | refine blk_drewN ?_ _ | refine blk_drew ?_ | refine blk_alloc ?_ _)); refine blk_far ?_ NB162_168.out _; (with_reducible repeat (first | refine blk_drewN ?_ _ | refine blk_drew ?_ | refine blk_alloc ?_ _)); exact BK162.out⟩, ⟨by (with_reducible repeat (first | refine blk_drewN ?_ _ | refine blk_drew ?_ | refine blk_alloc ?_ _)); refine blk_far ?_ NB166_168.out _; (with_reducible repeat (first | refine blk_drewN ?_ _ | refine blk_drew ?_ | refine blk_alloc ?_ _)); exact BK166.out⟩, ⟨by (with_reducible repeat (first | refine blk_drewN ?_ _ | refine blk_drew ?_ | refine blk_alloc ?_ _)); refine blk_put (cs := #[.slice none 0 0]) ?_ 0 _ rfl; (with_reducible repeat (first | refine blk_drewN ?_ _ | refine blk_drew ?_ | refine blk_alloc ?_ _)); exact BK168.out⟩, ⟨hS⟩⟩
       rw [if_neg c206] at H
       have c206b0 : (a1_3.toList == a1_1.toList) = false := beq_eq_false_iff_ne.mpr c206
       have c206b1 : (a1_3.toList != a1_1.toList) = true := bne_iff_ne.mpr c206
       replace H := bm H
       obtain ⟨t177, A2160, H⟩ := H
       replace H : (spec_DoAct.j2 kj59 (!t177) l0_0 a1_0 a1_1 a1_2 a1_3 x167000_59 x167001_59 x167002_59) = some (r1, r2) := H
       have A216 := AM A2160
       clear A2160
       have H' := AM H
       clear H
       have hnb217 := NB166_160.out
       have hnc217 := NB160_166.out
       have hnb218 := NB166_161.out
       have hnc218 := NB161_166.out
       have hnb219 := NB166_162.out
       have hnc219 := NB162_166.out
       have hnb220 := NB166_168.out
       have hnc220 := NB168_166.out
       have hcz221_0 : w190.cell? ⟨gb166, 0, none⟩ = some (.string x167000_59) := (blk_cell BK166.out 0).trans rfl
       have hcz221_1 : w190.cell? ⟨gb166, 1, none⟩ = some (.string x167001_59) := (blk_cell BK166.out 1).trans rfl
       have hcz221_2 : w190.cell? ⟨gb166, 2, none⟩ = some (.int .i64 x167002_59) := (blk_cell BK166.out 2).trans rfl
       have hfz221_0 := blk_frozen BK166.out 0
       have hfz221_1 := blk_frozen BK166.out 1
       have hfz221_2 := blk_frozen BK166.out 2
       have hnb222 := NB161_160.out
       have hnc222 := NB160_161.out
       have hnb223 := NB161_162.out
       have hnc223 := NB162_161.out
       have hnb224 := NB161_168.out
       have hnc224 := NB168_161.out
       have hcz225_0 : w190.cell? ⟨gb161, 0, none⟩ = some (.int .i64 a1_0) := (blk_cell BK161.out 0).trans rfl
       have hcz225_1 : w190.cell? ⟨gb161, 1, none⟩ = some (.string a1_1) := (blk_cell BK161.out 1).trans rfl
       have hcz225_2 : w190.cell? ⟨gb161, 2, none⟩ = some (.string a1_2) := (blk_cell BK161.out 2).trans rfl
       have hcz225_3 : w190.cell? ⟨gb161, 3, none⟩ = some (.string a1_3) := (blk_cell BK161.out 3).trans rfl
       have hfz225_0 := blk_frozen BK161.out 0
       have hfz225_1 := blk_frozen BK161.out 1
       have hfz225_2 := blk_frozen BK161.out 2
       have hfz225_3 := blk_frozen BK161.out 3
       go_wp2_with (first | (go_at_call 45; (with_reducible refine (spec_l03Name.calls a1_3 t177 _ A216.out).mono ?_); rintro e w' ⟨rfl, ⟨nd, rfl⟩⟩))
       go_meet
       case rel => exact ⟨_, (!t177), (by first | rfl | (simp; done) | (simp [*]; done) | (generalize ByteArray.toList a1_2 = q_; cases q_ <;> first | rfl | (simp; done))), H', ⟨by have := HJ2.out; have := HJ59.out; first | omega | exact Nat.le_refl _⟩, ⟨by (with_reducible repeat (first | refine blk_drewN ?_ _ | refine blk_drew ?_ | refine blk_alloc ?_ _)); refine blk_far ?_ NB160_168.out _; (with_reducible repeat (first | refine blk_drewN ?_ _ | refine blk_drew ?_ | refine blk_alloc ?_ _)); exact BK160.out⟩, ⟨by (with_reducible repeat (first | refine blk_drewN ?_ _ | refine blk_drew ?_ | refine blk_alloc ?_ _)); refine blk_far ?_ NB161_168.out _; (with_reducible repeat (first | refine blk_drewN ?_ _ | refine blk_drew ?_ | refine blk_alloc ?_ _)); exact BK161.out⟩, ⟨by (with_reducible repeat (first | refine blk_drewN ?_ _ | refine blk_drew ?_ | refine blk_alloc ?_ _)); refine blk_far ?_ NB162_168.out _; (with_reducible repeat (first | refine blk_drewN ?_ _ | refine blk_drew ?_ | refine blk_alloc ?_ _)); exact BK162.out⟩, ⟨by (with_reducible repeat (first | refine blk_drewN ?_ _ | refine blk_drew ?_ | refine blk_alloc ?_ _)); refine blk_far ?_ NB166_168.out _; (with_reducible repeat (first | refine blk_drewN ?_ _ | refine blk_drew ?_ | refine blk_alloc ?_ _)); exact BK166.out⟩, ⟨by (with_reducible repeat (first | refine blk_drewN ?_ _ | refine blk_drew ?_ | refine blk_alloc ?_ _)); refine blk_put (cs := #[.slice none 0 0]) ?_ 0 _ rfl; (with_reducible repeat (first | refine blk_drewN ?_ _ | refine blk_drew ?_ | refine blk_alloc ?_ _)); exact BK168.out⟩, ⟨hS⟩⟩
      case rest =>
       clear HC189
       obtain ⟨kq, x105_188, rfl, HA, HJ188, BK160, BK161, BK162, BK166, BK168, HB⟩ := hcut
       cases kq with
       | zero => exact absurd HA.out (by simp [spec_DoAct.j2])
       | succ kj188 =>
        have H := HA.out
        clear HA
        simp only [spec_DoAct.j2] at H
        by_cases c226 : x105_188 = true
        ·subst c226
         have H1 : (some (([] : List (S67)), false)) = some (r1, r2) := by rw [if_pos rfl] at H; exact H
         clear H
         have H := H1
         clear H1
         simp only [Option.some.injEq, Prod.mk.injEq] at H
         obtain ⟨rfl, rfl⟩ := H
         have hnb227 := NB162_160.out
         have hnc227 := NB160_162.out
         have hnb228 := NB162_161.out
         have hnc228 := NB161_162.out
         have hnb229 := NB162_166.out
         have hnc229 := NB166_162.out
         have hnb230 := NB162_168.out
         have hnc230 := NB168_162.out
         have hcz231_0 : wc.cell? ⟨gb162, 0, none⟩ = some (.slice none 0 0) := (blk_cell BK162.out 0).trans rfl
         have hfz231_0 := blk_frozen BK162.out 0
         go_wp2
         refine bodyPost_ret (results_ct rfl _ _ gb162 30 #[.slice none 0 0] (0, 0) _ rfl (by (with_reducible repeat (first | refine blk_drewN ?_ _ | refine blk_drew ?_ | refine blk_alloc ?_ _)); refine blk_put (cs := #[.slice none 0 0]) ?_ 0 _ rfl; (with_reducible repeat (first | refine blk_drewN ?_ _ | refine blk_drew ?_ | refine blk_alloc ?_ _)); exact BK162.out) Try.underlying30 rfl (by kernel_rfl)) rfl ?_
         exact ⟨_, by first | rfl | (simp [errW_none, errW_some] <;> rfl) | (simp [*, errW_none, errW_some] <;> rfl), by first | exact Kd.R_nil _ _ _ _ _ | exact Kd.N_nil _ _ _ _ _ | exact Kd.V_nil _ _ _ _ _ | exact Kd.Q_nil _ _ _ _ _ | exact Kd.S_nil _ _ _ _ _, hS⟩
        replace c226 := Bool.eq_false_iff.mpr c226
        subst c226
        have H1 : ((spec_l03Without.f kj188 l0_0 a1_1).bind fun t178 => ((spec_l03Put.f kj188 t178 a1_3 x167001_59 x167002_59).bind fun t181 => ((spec_DiskOk.f kj188 t181).bind fun t184 => (if t184 = true then (some (t181, true)) else (some (([] : List (S67)), false)))))) = some (r1, r2) := by rw [if_neg (show ¬ (false = true) by decide)] at H; exact H
        clear H
        have H := H1
        clear H1
        replace H := bm H
        obtain ⟨t178, A2320, H⟩ := H
        replace H : ((spec_l03Put.f kj188 t178 a1_3 x167001_59 x167002_59).bind fun t181 => ((spec_DiskOk.f kj188 t181).bind fun t184 => (if t184 = true then (some (t181, true)) else (some (([] : List (S67)), false))))) = some (r1, r2) := H
        have A232 := AM A2320
        clear A2320
        replace H := bm H
        obtain ⟨t181, A2330, H⟩ := H
        replace H : ((spec_DiskOk.f kj188 t181).bind fun t184 => (if t184 = true then (some (t181, true)) else (some (([] : List (S67)), false)))) = some (r1, r2) := H
        have A233 := AM A2330
        clear A2330
        replace H := bm H
        obtain ⟨t184, A2340, H⟩ := H
        replace H : (if t184 = true then (some (t181, true)) else (some (([] : List (S67)), false))) = some (r1, r2) := H
        have A234 := AM A2340
        clear A2340
        by_cases c235 : t184 = true
        ·subst c235
         have H1 : (some (t181, true)) = some (r1, r2) := by rw [if_pos rfl] at H; exact H
         clear H
         have H := H1
         clear H1
         simp only [Option.some.injEq, Prod.mk.injEq] at H
         obtain ⟨rfl, rfl⟩ := H
         have hnb236 := NB161_160.out
         have hnc236 := NB160_161.out
         have hnb237 := NB161_162.out
         have hnc237 := NB162_161.out
         have hnb238 := NB161_166.out
         have hnc238 := NB166_161.out
         have hnb239 := NB161_168.out
         have hnc239 := NB168_161.out
         have hcz240_0 : wc.cell? ⟨gb161, 0, none⟩ = some (.int .i64 a1_0) := (blk_cell BK161.out 0).trans rfl
         have hcz240_1 : wc.cell? ⟨gb161, 1, none⟩ = some (.string a1_1) := (blk_cell BK161.out 1).trans rfl
         have hcz240_2 : wc.cell? ⟨gb161, 2, none⟩ = some (.string a1_2) := (blk_cell BK161.out 2).trans rfl
         have hcz240_3 : wc.cell? ⟨gb161, 3, none⟩ = some (.string a1_3) := (blk_cell BK161.out 3).trans rfl
         have hfz240_0 := blk_frozen BK161.out 0
         have hfz240_1 := blk_frozen BK161.out 1
         have hfz240_2 := blk_frozen BK161.out 2
         have hfz240_3 := blk_frozen BK161.out 3
         have hnb241 := NB166_160.out
         have hnc241 := NB160_166.out
         have hnb242 := NB166_162.out
         have hnc242 := NB162_166.out
         have hnb243 := NB166_168.out
         have hnc243 := NB168_166.out
         have hcz244_0 : wc.cell? ⟨gb166, 0, none⟩ = some (.string x167000_59) := (blk_cell BK166.out 0).trans rfl
         have hcz244_1 : wc.cell? ⟨gb166, 1, none⟩ = some (.string x167001_59) := (blk_cell BK166.out 1).trans rfl
         have hcz244_2 : wc.cell? ⟨gb166, 2, none⟩ = some (.int .i64 x167002_59) := (blk_cell BK166.out 2).trans rfl
         have hfz244_0 := blk_frozen BK166.out 0
         have hfz244_1 := blk_frozen BK166.out 1
         have hfz244_2 := blk_frozen BK166.out 2
         try go_wp2
         have n0_ : Aside0 ((wc.setCell ⟨gb166, 0, none⟩ (.string a1_3)).heap[gb160]? = some (.cells #[.slice A0_0 l0_0.length c0_0] 30 (0, 0))) := ⟨by (with_reducible repeat (first | refine blk_drewN ?_ _ | refine blk_drew ?_ | refine blk_alloc ?_ _)); refine blk_far ?_ NB160_166.out _; (with_reducible repeat (first | refine blk_drewN ?_ _ | refine blk_drew ?_ | refine blk_alloc ?_ _)); exact BK160.out⟩
         have n1_ : Aside0 ((wc.setCell ⟨gb166, 0, none⟩ (.string a1_3)).heap[gb161]? = some (.cells #[.int .i64 a1_0, .string a1_1, .string a1_2, .string a1_3] 41 (0, 0))) := ⟨by (with_reducible repeat (first | refine blk_drewN ?_ _ | refine blk_drew ?_ | refine blk_alloc ?_ _)); refine blk_far ?_ NB161_166.out _; (with_reducible repeat (first | refine blk_drewN ?_ _ | refine blk_drew ?_ | refine blk_alloc ?_ _)); exact BK161.out⟩
         have n2_ : Aside0 ((wc.setCell ⟨gb166, 0, none⟩ (.string a1_3)).heap[gb162]? = some (.cells #[.slice none 0 0] 30 (0, 0))) := ⟨by (with_reducible repeat (first | refine blk_drewN ?_ _ | refine blk_drew ?_ | refine blk_alloc ?_ _)); refine blk_far ?_ NB162_166.out _; (with_reducible repeat (first | refine blk_drewN ?_ _ | refine blk_drew ?_ | refine blk_alloc ?_ _)); exact BK162.out⟩
         have n3_ : Aside0 ((wc.setCell ⟨gb166, 0, none⟩ (.string a1_3)).heap[gb166]? = some (.cells #[.string a1_3, .string x167001_59, .int .i64 x167002_59] 67 (0, 0))) := ⟨by (with_reducible repeat (first | refine blk_drewN ?_ _ | refine blk_drew ?_ | refine blk_alloc ?_ _)); refine blk_put (cs := #[.string x167000_59, .string x167001_59, .int .i64 x167002_59]) ?_ 0 _ rfl; (with_reducible repeat (first | refine blk_drewN ?_ _ | refine blk_drew ?_ | refine blk_alloc ?_ _)); exact BK166.out⟩
         have n4_ : Aside0 ((wc.setCell ⟨gb166, 0, none⟩ (.string a1_3)).heap[gb168]? = some (.cells #[.slice none 0 0] 30 (0, 0))) := ⟨by (with_reducible repeat (first | refine blk_drewN ?_ _ | refine blk_drew ?_ | refine blk_alloc ?_ _)); refine blk_far ?_ NB168_166.out _; (with_reducible repeat (first | refine blk_drewN ?_ _ | refine blk_drew ?_ | refine blk_alloc ?_ _)); exact BK168.out⟩
         have n5_ : Aside0 (Below w.heap.size w (wc.setCell ⟨gb166, 0, none⟩ (.string a1_3))) := ⟨hS⟩
         (try clear BK160)
         (try clear BK161)
         (try clear BK162)
         (try clear BK166)
         (try clear BK168)
         (try clear HB)
         generalize (wc.setCell ⟨gb166, 0, none⟩ (.string a1_3)) = w245 at n0_ n1_ n2_ n3_ n4_ n5_ ⊢
         have BK160 := n0_
         have BK161 := n1_
         have BK162 := n2_
         have BK166 := n3_
         have BK168 := n4_
         have HB := n5_
         clear n0_ n1_ n2_ n3_ n4_ n5_
         have n0_ := AM (blk_drew BK160.out)
         have n1_ := AM (blk_drew BK161.out)
         have n2_ := AM (blk_drew BK162.out)
         have n3_ := AM (blk_drew BK166.out)
         have n4_ := AM (blk_drew BK168.out)
         have n5_ := AM (below_drew1 HB.out)
         clear BK160
         clear BK161
         clear BK162
         clear BK166
         clear BK168
         clear HB
         have BK160 := n0_
         have BK161 := n1_
         have BK162 := n2_
         have BK166 := n3_
         have BK168 := n4_
         have HB := n5_
         clear n0_ n1_ n2_ n3_ n4_ n5_
         refine start_ (n := 7) (S := fun w' => w'.cell? ⟨gb160, 0, none⟩ = some (.slice A0_0 l0_0.length c0_0) ∧ w'.cell? ⟨gb161, 0, none⟩ = some (.int .i64 a1_0) ∧ w'.cell? ⟨gb161, 1, none⟩ = some (.string a1_1) ∧ w'.cell? ⟨gb161, 2, none⟩ = some (.string a1_2) ∧ w'.cell? ⟨gb161, 3, none⟩ = some (.string a1_3) ∧ w'.cell? ⟨gb166, 0, none⟩ = some (.string a1_3) ∧ w'.cell? ⟨gb166, 1, none⟩ = some (.string x167001_59) ∧ w'.cell? ⟨gb166, 2, none⟩ = some (.int .i64 x167002_59)) (ds := []) #[false, false, false, false, false, false, false] (by kernel_rfl) rfl rfl ⟨(blk_cell BK160.out 0).trans rfl, (blk_cell BK161.out 0).trans rfl, (blk_cell BK161.out 1).trans rfl, (blk_cell BK161.out 2).trans rfl, (blk_cell BK161.out 3).trans rfl, (blk_cell BK166.out 0).trans rfl, (blk_cell BK166.out 1).trans rfl, (blk_cell BK166.out 2).trans rfl⟩ (fun hHeld => ?_)
         generalize w245.drew = w246 at BK160 BK161 BK162 BK166 BK168 HB hHeld ⊢
         refine pure_ (i := 1) (N := some 111) (v := ?_) (a' := ?_) #[false, true, false, false, false, false, false] rfl rfl (by kernel_rfl) (fun _ _ _ h => h) (Or.inl ⟨by rfl, ?_⟩) ?_ ?_
         rotate_left
         ·intro w'
          go_simp
          with_reducible rfl
         rotate_left
         ·simp only [Act.put, qT, q0, qS, i64_w, i32_w]
          rfl
         refine take_ (i := 0) (N := some 110) (v := ?_) (a' := ?_) #[true, true, false, false, false, false, false] rfl rfl (by kernel_rfl) (fun _ _ _ h => h) (Or.inl ⟨by rfl, ?_⟩) hHeld ?_ ?_
         rotate_left
         ·rintro w' ⟨s0, s1, s2, s3, s4, s5, s6, s7⟩
          go_simp
          with_reducible rfl
         rotate_left
         ·simp only [Act.put, qT, q0, qS, i64_w, i32_w]
          rfl
         refine take_ (i := 2) (N := some 112) (v := ?_) (a' := ?_) #[true, true, true, false, false, false, false] rfl rfl (by kernel_rfl) (fun _ _ _ h => h) (Or.inl ⟨by rfl, ?_⟩) hHeld ?_ ?_
         rotate_left
         ·rintro w' ⟨s0, s1, s2, s3, s4, s5, s6, s7⟩
          go_simp
          with_reducible rfl
         rotate_left
         ·simp only [Act.put, qT, q0, qS, i64_w, i32_w]
          rfl
         refine take_ (i := 4) (N := some 114) (v := ?_) (a' := ?_) #[true, true, true, false, true, false, false] rfl rfl (by kernel_rfl) (fun _ _ _ h => h) (Or.inl ⟨by rfl, ?_⟩) hHeld ?_ ?_
         rotate_left
         ·rintro w' ⟨s0, s1, s2, s3, s4, s5, s6, s7⟩
          go_simp
          with_reducible rfl
         rotate_left
         ·simp only [Act.put, qT, q0, qS, i64_w, i32_w]
          rfl
         refine one_ (i := 3) (N := some 113) #[true, true, true, true, true, false, false] rfl rfl (by kernel_rfl) (by decide) (fun K hK => ?_)
         refine goes_ Try.func47 (by kernel_rfl) rfl #[.agg #[.slice A0_0 l0_0.length c0_0], .string a1_1] (by rfl) rfl rfl (by (try simp only [List.map_toArray, List.map_cons, List.map_nil]); first | done | rfl) ?_
         with_reducible refine (spec_l03Without.calls kj188 _ _ l0_0 a1_1 t178 _ ?side1 ?side2 A232.out).mono ?_
         (case side1 => repeat (first | exact (Kd.C_below HR0_0.out HB.out) | (with_reducible refine Kd.C_alloc ?_ _) | (with_reducible refine Kd.C_drewN ?_ _) | (with_reducible refine Kd.C_drew ?_)))
         (case side2 => exact HC0_0.out)
         rintro e w247 ⟨v179, rfl, ho0, hb⟩
         refine ⟨_, rfl, ?_⟩
         have n0_ := AM (Kd.R_lower (Kd.R_newB ho0 (g := gb166) (o := .cells #[.string a1_3, .string x167001_59, .int .i64 x167002_59] 67 (0, 0)) (bk BK166)) (below_size (hS)))
         have n1_ := AM (blk_below (g := gb160) (o := .cells #[.slice A0_0 l0_0.length c0_0] 30 (0, 0)) (bk BK160) hb)
         have n2_ := AM (blk_below (g := gb161) (o := .cells #[.int .i64 a1_0, .string a1_1, .string a1_2, .string a1_3] 41 (0, 0)) (bk BK161) hb)
         have n3_ := AM (blk_below (g := gb162) (o := .cells #[.slice none 0 0] 30 (0, 0)) (bk BK162) hb)
         have n4_ := AM (blk_below (g := gb166) (o := .cells #[.string a1_3, .string x167001_59, .int .i64 x167002_59] 67 (0, 0)) (bk BK166) hb)
         have n5_ := AM (blk_below (g := gb168) (o := .cells #[.slice none 0 0] 30 (0, 0)) (bk BK168) hb)
         have n6_ := AM (below_step (hS) hb)
         clear BK160
         clear BK161
         clear BK162
         clear BK166
         clear BK168
         clear HB
         have HO180 := n0_
         have BK160 := n1_
         have BK161 := n2_
         have BK162 := n3_
         have BK166 := n4_
         have BK168 := n5_
         have HB := n6_
         clear n0_ n1_ n2_ n3_ n4_ n5_ n6_
         (try clear hb)
         (try clear hb2)
         (try clear hk)
         (try clear hi)
         (try clear ho0)
         obtain ⟨Ao248, co248, eo248⟩ := Kd.R_slice HO180.out
         (first | subst eo248 | (injection eo248 with f1_ f2_ f3_; have f4_ := f1_.symm; have f5_ := f3_.symm; clear f1_ f2_ f3_; subst f4_; subst f5_))
         refine hK.out _ _ ⟨(blk_cell BK160.out 0).trans rfl, (blk_cell BK161.out 0).trans rfl, (blk_cell BK161.out 1).trans rfl, (blk_cell BK161.out 2).trans rfl, (blk_cell BK161.out 3).trans rfl, (blk_cell BK166.out 0).trans rfl, (blk_cell BK166.out 1).trans rfl, (blk_cell BK166.out 2).trans rfl⟩ (fun hHeld => ?_)
         clear hK K
         refine norm_ (a' := ?_) ?_ ?_
         rotate_left
         ·show Act.put _ (some 113) _ = _
          simp only [Act.put, qT, q0, qS, i64_w, i32_w]
          rfl
         refine one_ (i := 5) (N := some 115) #[true, true, true, true, true, true, false] rfl rfl (by kernel_rfl) (by decide) (fun K hK => ?_)
         refine goes_ Try.func46 (by kernel_rfl) rfl #[.agg #[.slice Ao248 t178.length co248], .agg #[.string a1_3, .string x167001_59, .int .i64 x167002_59]] (by rfl) rfl rfl (by (try simp only [List.map_toArray, List.map_cons, List.map_nil]); first | done | rfl) ?_
         with_reducible refine (spec_l03Put.calls kj188 _ _ t178 a1_3 x167001_59 x167002_59 t181 _ ?side1 ?side2 A233.out).mono ?_
         (case side1 => repeat (first | exact (Kd.R_reads' HO180.out).2.2 | (with_reducible refine Kd.C_alloc ?_ _) | (with_reducible refine Kd.C_drewN ?_ _) | (with_reducible refine Kd.C_drew ?_)))
         (case side2 => exact (Kd.R_reads' HO180.out).2.1)
         rintro e w249 ⟨v182, rfl, ho0, hb⟩
         refine ⟨_, rfl, ?_⟩
         have n0_ := AM (Kd.R_elder' (by exact HO180.out) (Kd.R_base ho0) hb)
         have n1_ := AM (Kd.R_lower (Kd.R_newB (Kd.R_new' ho0 (Kd.R_lt (by exact HO180.out))) (g := gb166) (o := .cells #[.string a1_3, .string x167001_59, .int .i64 x167002_59] 67 (0, 0)) (bk BK166)) (below_size (hS)))
         have n2_ := AM (blk_below (g := gb160) (o := .cells #[.slice A0_0 l0_0.length c0_0] 30 (0, 0)) (bk BK160) hb)
         have n3_ := AM (blk_below (g := gb161) (o := .cells #[.int .i64 a1_0, .string a1_1, .string a1_2, .string a1_3] 41 (0, 0)) (bk BK161) hb)
         have n4_ := AM (blk_below (g := gb162) (o := .cells #[.slice none 0 0] 30 (0, 0)) (bk BK162) hb)
         have n5_ := AM (blk_below (g := gb166) (o := .cells #[.string a1_3, .string x167001_59, .int .i64 x167002_59] 67 (0, 0)) (bk BK166) hb)
         have n6_ := AM (blk_below (g := gb168) (o := .cells #[.slice none 0 0] 30 (0, 0)) (bk BK168) hb)
         have n7_ := AM (below_step (hS) hb)
         clear HO180
         clear BK160
         clear BK161
         clear BK162
         clear BK166
         clear BK168
         clear HB
         have HO180 := n0_
         have HO183 := n1_
         have BK160 := n2_
         have BK161 := n3_
         have BK162 := n4_
         have BK166 := n5_
         have BK168 := n6_
         have HB := n7_
         clear n0_ n1_ n2_ n3_ n4_ n5_ n6_ n7_
         (try clear hb)
         (try clear hb2)
         (try clear hk)
         (try clear hi)
         (try clear ho0)
         obtain ⟨Ao250, co250, eo250⟩ := Kd.R_slice HO183.out
         (first | subst eo250 | (injection eo250 with f1_ f2_ f3_; have f4_ := f1_.symm; have f5_ := f3_.symm; clear f1_ f2_ f3_; subst f4_; subst f5_))
         refine hK.out _ _ ⟨(blk_cell BK160.out 0).trans rfl, (blk_cell BK161.out 0).trans rfl, (blk_cell BK161.out 1).trans rfl, (blk_cell BK161.out 2).trans rfl, (blk_cell BK161.out 3).trans rfl, (blk_cell BK166.out 0).trans rfl, (blk_cell BK166.out 1).trans rfl, (blk_cell BK166.out 2).trans rfl⟩ (fun hHeld => ?_)
         clear hK K
         refine norm_ (a' := ?_) ?_ ?_
         rotate_left
         ·show Act.put _ (some 115) _ = _
          simp only [Act.put, qT, q0, qS, i64_w, i32_w]
          rfl
         refine one_ (i := 6) (N := none) #[true, true, true, true, true, true, true] rfl rfl (by kernel_rfl) (by decide) (fun K hK => ?_)
         have hs251 : w249.cell? ⟨gb168, 0, none⟩ = some (.slice none 0 0) := (blk_cell BK168.out 0).trans rfl
         have hfs251 := blk_frozen BK168.out 0
         have hns251_0 := NB160_168.out
         have hns251_1 := NB161_168.out
         have hns251_2 := NB162_168.out
         have hns251_3 := NB166_168.out
         have hms251_0 := NB168_160.out
         have hms251_1 := NB168_161.out
         have hms251_2 := NB168_162.out
         have hms251_3 := NB168_166.out
         refine skip_ (w1 := ?_) (by rfl) rfl ?_ ?_
         rotate_left
         ·go_simp
          rfl
         refine hK.out _ _ ⟨((cell_far (p := ⟨gb168, _, none⟩) NB160_168.out _).trans (hHeld.1)), ((cell_far (p := ⟨gb168, _, none⟩) NB161_168.out _).trans (hHeld.2.1)), ((cell_far (p := ⟨gb168, _, none⟩) NB161_168.out _).trans (hHeld.2.2.1)), ((cell_far (p := ⟨gb168, _, none⟩) NB161_168.out _).trans (hHeld.2.2.2.1)), ((cell_far (p := ⟨gb168, _, none⟩) NB161_168.out _).trans (hHeld.2.2.2.2.1)), ((cell_far (p := ⟨gb168, _, none⟩) NB166_168.out _).trans (hHeld.2.2.2.2.2.1)), ((cell_far (p := ⟨gb168, _, none⟩) NB166_168.out _).trans (hHeld.2.2.2.2.2.2.1)), ((cell_far (p := ⟨gb168, _, none⟩) NB166_168.out _).trans (hHeld.2.2.2.2.2.2.2))⟩ (fun hHeld => ?_)
         clear hK K
         refine done_ (by kernel_rfl) ?_
         have hnb252 := NB168_160.out
         have hnc252 := NB160_168.out
         have hnb253 := NB168_162.out
         have hnc253 := NB162_168.out
         have hcz254_0 : w249.cell? ⟨gb168, 0, none⟩ = some (.slice none 0 0) := (blk_cell BK168.out 0).trans rfl
         have hfz254_0 := blk_frozen BK168.out 0
         try go_wp2_with (first | ((with_reducible refine gate_callee (f := 41) rfl ?_); refine goesL_ (some 125) rfl rfl Try.func41 (by kernel_rfl) rfl #[.agg #[.slice Ao250 t181.length co250]] rfl (by (try simp only [List.map_toArray, List.map_cons, List.map_nil]); first | done | rfl) ?_; (with_reducible refine (spec_DiskOk.calls kj188 _ _ t181 true _ ?side1 ?side2 A234.out).mono ?_); (case side1 => refine (Kd.R_reads' (e := 67) (base := w.heap.size) (ok := fun k_ => ((True ∧ some k_ ≠ (.slice Ao248 t178.length co248 : Value).ownBlock) ∧ k_ ≠ gb166)) (n := t181.length) (c := co250) ?_).2.2; exact (by exact (Kd.R_mono (Kd.R_far (p := ⟨gb168, 0, none⟩) (Kd.R_types HO183.out BK168.out (by decide)) (fun _ hk => hk.2) (.slice Ao250 t181.length co250)) (fun _ h_ => h_.1)))); (case side2 => exact (Kd.R_reads' HO183.out).2.1); rintro e w255 ⟨rfl, hb⟩; refine ⟨_, rfl, ?_⟩; have n0_ := AM (Kd.R_below (by exact (Kd.R_mono (Kd.R_far (p := ⟨gb168, 0, none⟩) (Kd.R_types HO180.out BK168.out (by decide)) (fun _ hk => hk.2) (.slice Ao250 t181.length co250)) (fun _ h_ => h_.1))) hb); have n1_ := AM (Kd.R_below (by exact (Kd.R_mono (Kd.R_far (p := ⟨gb168, 0, none⟩) (Kd.R_types HO183.out BK168.out (by decide)) (fun _ hk => hk.2) (.slice Ao250 t181.length co250)) (fun _ h_ => h_.1))) hb); have n2_ := AM (blk_below (g := gb160) (o := .cells #[.slice A0_0 l0_0.length c0_0] 30 (0, 0)) (by (with_reducible repeat (first | refine blk_drewN ?_ _ | refine blk_drew ?_ | refine blk_alloc ?_ _)); refine blk_far ?_ NB160_168.out _; (with_reducible repeat (first | refine blk_drewN ?_ _ | refine blk_drew ?_ | refine blk_alloc ?_ _)); exact BK160.out) hb); have n3_ := AM (blk_below (g := gb161) (o := .cells #[.int .i64 a1_0, .string a1_1, .string a1_2, .string a1_3] 41 (0, 0)) (by (with_reducible repeat (first | refine blk_drewN ?_ _ | refine blk_drew ?_ | refine blk_alloc ?_ _)); refine blk_far ?_ NB161_168.out _; (with_reducible repeat (first | refine blk_drewN ?_ _ | refine blk_drew ?_ | refine blk_alloc ?_ _)); exact BK161.out) hb); have n4_ := AM (blk_below (g := gb162) (o := .cells #[.slice none 0 0] 30 (0, 0)) (by (with_reducible repeat (first | refine blk_drewN ?_ _ | refine blk_drew ?_ | refine blk_alloc ?_ _)); refine blk_far ?_ NB162_168.out _; (with_reducible repeat (first | refine blk_drewN ?_ _ | refine blk_drew ?_ | refine blk_alloc ?_ _)); exact BK162.out) hb); have n5_ := AM (blk_below (g := gb166) (o := .cells #[.string a1_3, .string x167001_59, .int .i64 x167002_59] 67 (0, 0)) (by (with_reducible repeat (first | refine blk_drewN ?_ _ | refine blk_drew ?_ | refine blk_alloc ?_ _)); refine blk_far ?_ NB166_168.out _; (with_reducible repeat (first | refine blk_drewN ?_ _ | refine blk_drew ?_ | refine blk_alloc ?_ _)); exact BK166.out) hb); have n6_ := AM (blk_below (g := gb168) (o := .cells #[.slice Ao250 t181.length co250] 30 (0, 0)) (by (with_reducible repeat (first | refine blk_drewN ?_ _ | refine blk_drew ?_ | refine blk_alloc ?_ _)); refine blk_put (cs := #[.slice none 0 0]) ?_ 0 _ rfl; (with_reducible repeat (first | refine blk_drewN ?_ _ | refine blk_drew ?_ | refine blk_alloc ?_ _)); exact BK168.out) hb); have n7_ := AM (below_step (hS) hb); clear HO180; clear HO183; clear BK160; clear BK161; clear BK162; clear BK166; clear BK168; clear HB; have HO180 := n0_; have HO183 := n1_; have BK160 := n2_; have BK161 := n3_; have BK162 := n4_; have BK166 := n5_; have BK168 := n6_; have HB := n7_; clear n0_ n1_ n2_ n3_ n4_ n5_ n6_ n7_; (try clear hb); (try clear hb2); (try clear hk); (try clear hi); have hcz256_0 : w255.cell? ⟨gb168, 0, none⟩ = some (.slice Ao250 t181.length co250) := (blk_cell BK168.out 0).trans rfl; have hfz256_0 := blk_frozen BK168.out 0; have hnb257 := NB162_160.out; have hnc257 := NB160_162.out; have hcz258_0 : w255.cell? ⟨gb162, 0, none⟩ = some (.slice none 0 0) := (blk_cell BK162.out 0).trans rfl; have hfz258_0 := blk_frozen BK162.out 0))
         refine bodyPost_ret (results_ct rfl _ _ gb162 30 #[.slice Ao250 t181.length co250] (0, 0) _ rfl (by (with_reducible repeat (first | refine blk_drewN ?_ _ | refine blk_drew ?_ | refine blk_alloc ?_ _)); refine blk_put (cs := #[.slice none 0 0]) ?_ 0 _ rfl; (with_reducible repeat (first | refine blk_drewN ?_ _ | refine blk_drew ?_ | refine blk_alloc ?_ _)); exact BK162.out) Try.underlying30 rfl (by kernel_rfl)) rfl ?_
         exact ⟨_, by first | rfl | (simp [errW_none, errW_some] <;> rfl) | (simp [*, errW_none, errW_some] <;> rfl), by exact Kd.R_mono (Kd.R_far (p := ⟨gb162, 0, none⟩) (Kd.R_types HO183.out BK162.out (by decide)) (fun _ hk => hk.2) (.slice Ao250 t181.length co250)) (fun _ hk => trivial), hS⟩
        replace c235 := Bool.eq_false_iff.mpr c235
        subst c235
        have H1 : (some (([] : List (S67)), false)) = some (r1, r2) := by rw [if_neg (show ¬ (false = true) by decide)] at H; exact H
        clear H
        have H := H1
        clear H1
        simp only [Option.some.injEq, Prod.mk.injEq] at H
        obtain ⟨rfl, rfl⟩ := H
        have hnb259 := NB161_160.out
        have hnc259 := NB160_161.out
        have hnb260 := NB161_162.out
        have hnc260 := NB162_161.out
        have hnb261 := NB161_166.out
        have hnc261 := NB166_161.out
        have hnb262 := NB161_168.out
        have hnc262 := NB168_161.out
        have hcz263_0 : wc.cell? ⟨gb161, 0, none⟩ = some (.int .i64 a1_0) := (blk_cell BK161.out 0).trans rfl
        have hcz263_1 : wc.cell? ⟨gb161, 1, none⟩ = some (.string a1_1) := (blk_cell BK161.out 1).trans rfl
        have hcz263_2 : wc.cell? ⟨gb161, 2, none⟩ = some (.string a1_2) := (blk_cell BK161.out 2).trans rfl
        have hcz263_3 : wc.cell? ⟨gb161, 3, none⟩ = some (.string a1_3) := (blk_cell BK161.out 3).trans rfl
        have hfz263_0 := blk_frozen BK161.out 0
        have hfz263_1 := blk_frozen BK161.out 1
        have hfz263_2 := blk_frozen BK161.out 2
        have hfz263_3 := blk_frozen BK161.out 3
        have hnb264 := NB166_160.out
        have hnc264 := NB160_166.out
        have hnb265 := NB166_162.out
        have hnc265 := NB162_166.out
        have hnb266 := NB166_168.out
        have hnc266 := NB168_166.out
        have hcz267_0 : wc.cell? ⟨gb166, 0, none⟩ = some (.string x167000_59) := (blk_cell BK166.out 0).trans rfl
        have hcz267_1 : wc.cell? ⟨gb166, 1, none⟩ = some (.string x167001_59) := (blk_cell BK166.out 1).trans rfl
        have hcz267_2 : wc.cell? ⟨gb166, 2, none⟩ = some (.int .i64 x167002_59) := (blk_cell BK166.out 2).trans rfl
        have hfz267_0 := blk_frozen BK166.out 0
        have hfz267_1 := blk_frozen BK166.out 1
        have hfz267_2 := blk_frozen BK166.out 2
        try go_wp2
        have n0_ : Aside0 ((wc.setCell ⟨gb166, 0, none⟩ (.string a1_3)).heap[gb160]? = some (.cells #[.slice A0_0 l0_0.length c0_0] 30 (0, 0))) := ⟨by (with_reducible repeat (first | refine blk_drewN ?_ _ | refine blk_drew ?_ | refine blk_alloc ?_ _)); refine blk_far ?_ NB160_166.out _; (with_reducible repeat (first | refine blk_drewN ?_ _ | refine blk_drew ?_ | refine blk_alloc ?_ _)); exact BK160.out⟩
        have n1_ : Aside0 ((wc.setCell ⟨gb166, 0, none⟩ (.string a1_3)).heap[gb161]? = some (.cells #[.int .i64 a1_0, .string a1_1, .string a1_2, .string a1_3] 41 (0, 0))) := ⟨by (with_reducible repeat (first | refine blk_drewN ?_ _ | refine blk_drew ?_ | refine blk_alloc ?_ _)); refine blk_far ?_ NB161_166.out _; (with_reducible repeat (first | refine blk_drewN ?_ _ | refine blk_drew ?_ | refine blk_alloc ?_ _)); exact BK161.out⟩
        have n2_ : Aside0 ((wc.setCell ⟨gb166, 0, none⟩ (.string a1_3)).heap[gb162]? = some (.cells #[.slice none 0 0] 30 (0, 0))) := ⟨by (with_reducible repeat (first | refine blk_drewN ?_ _ | refine blk_drew ?_ | refine blk_alloc ?_ _)); refine blk_far ?_ NB162_166.out _; (with_reducible repeat (first | refine blk_drewN ?_ _ | refine blk_drew ?_ | refine blk_alloc ?_ _)); exact BK162.out⟩
        have n3_ : Aside0 ((wc.setCell ⟨gb166, 0, none⟩ (.string a1_3)).heap[gb166]? = some (.cells #[.string a1_3, .string x167001_59, .int .i64 x167002_59] 67 (0, 0))) := ⟨by (with_reducible repeat (first | refine blk_drewN ?_ _ | refine blk_drew ?_ | refine blk_alloc ?_ _)); refine blk_put (cs := #[.string x167000_59, .string x167001_59, .int .i64 x167002_59]) ?_ 0 _ rfl; (with_reducible repeat (first | refine blk_drewN ?_ _ | refine blk_drew ?_ | refine blk_alloc ?_ _)); exact BK166.out⟩
        have n4_ : Aside0 ((wc.setCell ⟨gb166, 0, none⟩ (.string a1_3)).heap[gb168]? = some (.cells #[.slice none 0 0] 30 (0, 0))) := ⟨by (with_reducible repeat (first | refine blk_drewN ?_ _ | refine blk_drew ?_ | refine blk_alloc ?_ _)); refine blk_far ?_ NB168_166.out _; (with_reducible repeat (first | refine blk_drewN ?_ _ | refine blk_drew ?_ | refine blk_alloc ?_ _)); exact BK168.out⟩
        have n5_ : Aside0 (Below w.heap.size w (wc.setCell ⟨gb166, 0, none⟩ (.string a1_3))) := ⟨hS⟩
        (try clear BK160)
        (try clear BK161)
        (try clear BK162)
        (try clear BK166)
        (try clear BK168)
        (try clear HB)
        generalize (wc.setCell ⟨gb166, 0, none⟩ (.string a1_3)) = w268 at n0_ n1_ n2_ n3_ n4_ n5_ ⊢
        have BK160 := n0_
        have BK161 := n1_
        have BK162 := n2_
        have BK166 := n3_
        have BK168 := n4_
        have HB := n5_
        clear n0_ n1_ n2_ n3_ n4_ n5_
        have n0_ := AM (blk_drew BK160.out)
        have n1_ := AM (blk_drew BK161.out)
        have n2_ := AM (blk_drew BK162.out)
        have n3_ := AM (blk_drew BK166.out)
        have n4_ := AM (blk_drew BK168.out)
        have n5_ := AM (below_drew1 HB.out)
        clear BK160
        clear BK161
        clear BK162
        clear BK166
        clear BK168
        clear HB
        have BK160 := n0_
        have BK161 := n1_
        have BK162 := n2_
        have BK166 := n3_
        have BK168 := n4_
        have HB := n5_
        clear n0_ n1_ n2_ n3_ n4_ n5_
        refine start_ (n := 7) (S := fun w' => w'.cell? ⟨gb160, 0, none⟩ = some (.slice A0_0 l0_0.length c0_0) ∧ w'.cell? ⟨gb161, 0, none⟩ = some (.int .i64 a1_0) ∧ w'.cell? ⟨gb161, 1, none⟩ = some (.string a1_1) ∧ w'.cell? ⟨gb161, 2, none⟩ = some (.string a1_2) ∧ w'.cell? ⟨gb161, 3, none⟩ = some (.string a1_3) ∧ w'.cell? ⟨gb166, 0, none⟩ = some (.string a1_3) ∧ w'.cell? ⟨gb166, 1, none⟩ = some (.string x167001_59) ∧ w'.cell? ⟨gb166, 2, none⟩ = some (.int .i64 x167002_59)) (ds := []) #[false, false, false, false, false, false, false] (by kernel_rfl) rfl rfl ⟨(blk_cell BK160.out 0).trans rfl, (blk_cell BK161.out 0).trans rfl, (blk_cell BK161.out 1).trans rfl, (blk_cell BK161.out 2).trans rfl, (blk_cell BK161.out 3).trans rfl, (blk_cell BK166.out 0).trans rfl, (blk_cell BK166.out 1).trans rfl, (blk_cell BK166.out 2).trans rfl⟩ (fun hHeld => ?_)
        generalize w268.drew = w269 at BK160 BK161 BK162 BK166 BK168 HB hHeld ⊢
        refine pure_ (i := 1) (N := some 111) (v := ?_) (a' := ?_) #[false, true, false, false, false, false, false] rfl rfl (by kernel_rfl) (fun _ _ _ h => h) (Or.inl ⟨by rfl, ?_⟩) ?_ ?_
        rotate_left
        ·intro w'
         go_simp
         with_reducible rfl
        rotate_left
        ·simp only [Act.put, qT, q0, qS, i64_w, i32_w]
         rfl
        refine take_ (i := 0) (N := some 110) (v := ?_) (a' := ?_) #[true, true, false, false, false, false, false] rfl rfl (by kernel_rfl) (fun _ _ _ h => h) (Or.inl ⟨by rfl, ?_⟩) hHeld ?_ ?_
        rotate_left
        ·rintro w' ⟨s0, s1, s2, s3, s4, s5, s6, s7⟩
         go_simp
         with_reducible rfl
        rotate_left
        ·simp only [Act.put, qT, q0, qS, i64_w, i32_w]
         rfl
        refine take_ (i := 2) (N := some 112) (v := ?_) (a' := ?_) #[true, true, true, false, false, false, false] rfl rfl (by kernel_rfl) (fun _ _ _ h => h) (Or.inl ⟨by rfl, ?_⟩) hHeld ?_ ?_
        rotate_left
        ·rintro w' ⟨s0, s1, s2, s3, s4, s5, s6, s7⟩
         go_simp
         with_reducible rfl
        rotate_left
        ·simp only [Act.put, qT, q0, qS, i64_w, i32_w]
         rfl
        refine take_ (i := 4) (N := some 114) (v := ?_) (a' := ?_) #[true, true, true, false, true, false, false] rfl rfl (by kernel_rfl) (fun _ _ _ h => h) (Or.inl ⟨by rfl, ?_⟩) hHeld ?_ ?_
        rotate_left
        ·rintro w' ⟨s0, s1, s2, s3, s4, s5, s6, s7⟩
         go_simp
         with_reducible rfl
        rotate_left
        ·simp only [Act.put, qT, q0, qS, i64_w, i32_w]
         rfl
        refine one_ (i := 3) (N := some 113) #[true, true, true, true, true, false, false] rfl rfl (by kernel_rfl) (by decide) (fun K hK => ?_)
        refine goes_ Try.func47 (by kernel_rfl) rfl #[.agg #[.slice A0_0 l0_0.length c0_0], .string a1_1] (by rfl) rfl rfl (by (try simp only [List.map_toArray, List.map_cons, List.map_nil]); first | done | rfl) ?_
        with_reducible refine (spec_l03Without.calls kj188 _ _ l0_0 a1_1 t178 _ ?side1 ?side2 A232.out).mono ?_
        (case side1 => repeat (first | exact (Kd.C_below HR0_0.out HB.out) | (with_reducible refine Kd.C_alloc ?_ _) | (with_reducible refine Kd.C_drewN ?_ _) | (with_reducible refine Kd.C_drew ?_)))
        (case side2 => exact HC0_0.out)
        rintro e w270 ⟨v179, rfl, ho0, hb⟩
        refine ⟨_, rfl, ?_⟩
        have n0_ := AM (Kd.R_lower (Kd.R_newB ho0 (g := gb166) (o := .cells #[.string a1_3, .string x167001_59, .int .i64 x167002_59] 67 (0, 0)) (bk BK166)) (below_size (hS)))
        have n1_ := AM (blk_below (g := gb160) (o := .cells #[.slice A0_0 l0_0.length c0_0] 30 (0, 0)) (bk BK160) hb)
        have n2_ := AM (blk_below (g := gb161) (o := .cells #[.int .i64 a1_0, .string a1_1, .string a1_2, .string a1_3] 41 (0, 0)) (bk BK161) hb)
        have n3_ := AM (blk_below (g := gb162) (o := .cells #[.slice none 0 0] 30 (0, 0)) (bk BK162) hb)
        have n4_ := AM (blk_below (g := gb166) (o := .cells #[.string a1_3, .string x167001_59, .int .i64 x167002_59] 67 (0, 0)) (bk BK166) hb)
        have n5_ := AM (blk_below (g := gb168) (o := .cells #[.slice none 0 0] 30 (0, 0)) (bk BK168) hb)
        have n6_ := AM (below_step (hS) hb)
        clear BK160
        clear BK161
        clear BK162
        clear BK166
        clear BK168
        clear HB
        have HO180 := n0_
        have BK160 := n1_
        have BK161 := n2_
        have BK162 := n3_
        have BK166 := n4_
        have BK168 := n5_
        have HB := n6_
        clear n0_ n1_ n2_ n3_ n4_ n5_ n6_
        (try clear hb)
        (try clear hb2)
        (try clear hk)
        (try clear hi)
        (try clear ho0)
        obtain ⟨Ao271, co271, eo271⟩ := Kd.R_slice HO180.out
        (first | subst eo271 | (injection eo271 with f1_ f2_ f3_; have f4_ := f1_.symm; have f5_ := f3_.symm; clear f1_ f2_ f3_; subst f4_; subst f5_))
        refine hK.out _ _ ⟨(blk_cell BK160.out 0).trans rfl, (blk_cell BK161.out 0).trans rfl, (blk_cell BK161.out 1).trans rfl, (blk_cell BK161.out 2).trans rfl, (blk_cell BK161.out 3).trans rfl, (blk_cell BK166.out 0).trans rfl, (blk_cell BK166.out 1).trans rfl, (blk_cell BK166.out 2).trans rfl⟩ (fun hHeld => ?_)
        clear hK K
        refine norm_ (a' := ?_) ?_ ?_
        rotate_left
        ·show Act.put _ (some 113) _ = _
         simp only [Act.put, qT, q0, qS, i64_w, i32_w]
         rfl
        refine one_ (i := 5) (N := some 115) #[true, true, true, true, true, true, false] rfl rfl (by kernel_rfl) (by decide) (fun K hK => ?_)
        refine goes_ Try.func46 (by kernel_rfl) rfl #[.agg #[.slice Ao271 t178.length co271], .agg #[.string a1_3, .string x167001_59, .int .i64 x167002_59]] (by rfl) rfl rfl (by (try simp only [List.map_toArray, List.map_cons, List.map_nil]); first | done | rfl) ?_
        with_reducible refine (spec_l03Put.calls kj188 _ _ t178 a1_3 x167001_59 x167002_59 t181 _ ?side1 ?side2 A233.out).mono ?_
        (case side1 => repeat (first | exact (Kd.R_reads' HO180.out).2.2 | (with_reducible refine Kd.C_alloc ?_ _) | (with_reducible refine Kd.C_drewN ?_ _) | (with_reducible refine Kd.C_drew ?_)))
        (case side2 => exact (Kd.R_reads' HO180.out).2.1)
        rintro e w272 ⟨v182, rfl, ho0, hb⟩
        refine ⟨_, rfl, ?_⟩
        have n0_ := AM (Kd.R_elder' (by exact HO180.out) (Kd.R_base ho0) hb)
        have n1_ := AM (Kd.R_lower (Kd.R_newB (Kd.R_new' ho0 (Kd.R_lt (by exact HO180.out))) (g := gb166) (o := .cells #[.string a1_3, .string x167001_59, .int .i64 x167002_59] 67 (0, 0)) (bk BK166)) (below_size (hS)))
        have n2_ := AM (blk_below (g := gb160) (o := .cells #[.slice A0_0 l0_0.length c0_0] 30 (0, 0)) (bk BK160) hb)
        have n3_ := AM (blk_below (g := gb161) (o := .cells #[.int .i64 a1_0, .string a1_1, .string a1_2, .string a1_3] 41 (0, 0)) (bk BK161) hb)
        have n4_ := AM (blk_below (g := gb162) (o := .cells #[.slice none 0 0] 30 (0, 0)) (bk BK162) hb)
        have n5_ := AM (blk_below (g := gb166) (o := .cells #[.string a1_3, .string x167001_59, .int .i64 x167002_59] 67 (0, 0)) (bk BK166) hb)
        have n6_ := AM (blk_below (g := gb168) (o := .cells #[.slice none 0 0] 30 (0, 0)) (bk BK168) hb)
        have n7_ := AM (below_step (hS) hb)
        clear HO180
        clear BK160
        clear BK161
        clear BK162
        clear BK166
        clear BK168
        clear HB
        have HO180 := n0_
        have HO183 := n1_
        have BK160 := n2_
        have BK161 := n3_
        have BK162 := n4_
        have BK166 := n5_
        have BK168 := n6_
        have HB := n7_
        clear n0_ n1_ n2_ n3_ n4_ n5_ n6_ n7_
        (try clear hb)
        (try clear hb2)
        (try clear hk)
        (try clear hi)
        (try clear ho0)
        obtain ⟨Ao273, co273, eo273⟩ := Kd.R_slice HO183.out
        (first | subst eo273 | (injection eo273 with f1_ f2_ f3_; have f4_ := f1_.symm; have f5_ := f3_.symm; clear f1_ f2_ f3_; subst f4_; subst f5_))
        refine hK.out _ _ ⟨(blk_cell BK160.out 0).trans rfl, (blk_cell BK161.out 0).trans rfl, (blk_cell BK161.out 1).trans rfl, (blk_cell BK161.out 2).trans rfl, (blk_cell BK161.out 3).trans rfl, (blk_cell BK166.out 0).trans rfl, (blk_cell BK166.out 1).trans rfl, (blk_cell BK166.out 2).trans rfl⟩ (fun hHeld => ?_)
        clear hK K
        refine norm_ (a' := ?_) ?_ ?_
        rotate_left
        ·show Act.put _ (some 115) _ = _
         simp only [Act.put, qT, q0, qS, i64_w, i32_w]
         rfl
        refine one_ (i := 6) (N := none) #[true, true, true, true, true, true, true] rfl rfl (by kernel_rfl) (by decide) (fun K hK => ?_)
        have hs274 : w272.cell? ⟨gb168, 0, none⟩ = some (.slice none 0 0) := (blk_cell BK168.out 0).trans rfl
        have hfs274 := blk_frozen BK168.out 0
        have hns274_0 := NB160_168.out
        have hns274_1 := NB161_168.out
        have hns274_2 := NB162_168.out
        have hns274_3 := NB166_168.out
        have hms274_0 := NB168_160.out
        have hms274_1 := NB168_161.out
        have hms274_2 := NB168_162.out
        have hms274_3 := NB168_166.out
        refine skip_ (w1 := ?_) (by rfl) rfl ?_ ?_
        rotate_left
        ·go_simp
         rfl
        refine hK.out _ _ ⟨((cell_far (p := ⟨gb168, _, none⟩) NB160_168.out _).trans (hHeld.1)), ((cell_far (p := ⟨gb168, _, none⟩) NB161_168.out _).trans (hHeld.2.1)), ((cell_far (p := ⟨gb168, _, none⟩) NB161_168.out _).trans (hHeld.2.2.1)), ((cell_far (p := ⟨gb168, _, none⟩) NB161_168.out _).trans (hHeld.2.2.2.1)), ((cell_far (p := ⟨gb168, _, none⟩) NB161_168.out _).trans (hHeld.2.2.2.2.1)), ((cell_far (p := ⟨gb168, _, none⟩) NB166_168.out _).trans (hHeld.2.2.2.2.2.1)), ((cell_far (p := ⟨gb168, _, none⟩) NB166_168.out _).trans (hHeld.2.2.2.2.2.2.1)), ((cell_far (p := ⟨gb168, _, none⟩) NB166_168.out _).trans (hHeld.2.2.2.2.2.2.2))⟩ (fun hHeld => ?_)
        clear hK K
        refine done_ (by kernel_rfl) ?_
        have hnb275 := NB168_160.out
        have hnc275 := NB160_168.out
        have hnb276 := NB168_162.out
        have hnc276 := NB162_168.out
        have hcz277_0 : w272.cell? ⟨gb168, 0, none⟩ = some (.slice none 0 0) := (blk_cell BK168.out 0).trans rfl
        have hfz277_0 := blk_frozen BK168.out 0
        try go_wp2_with (first | ((with_reducible refine gate_callee (f := 41) rfl ?_); refine goesL_ (some 125) rfl rfl Try.func41 (by kernel_rfl) rfl #[.agg #[.slice Ao273 t181.length co273]] rfl (by (try simp only [List.map_toArray, List.map_cons, List.map_nil]); first | done | rfl) ?_; (with_reducible refine (spec_DiskOk.calls kj188 _ _ t181 false _ ?side1 ?side2 A234.out).mono ?_); (case side1 => refine (Kd.R_reads' (e := 67) (base := w.heap.size) (ok := fun k_ => ((True ∧ some k_ ≠ (.slice Ao271 t178.length co271 : Value).ownBlock) ∧ k_ ≠ gb166)) (n := t181.length) (c := co273) ?_).2.2; exact (by exact (Kd.R_mono (Kd.R_far (p := ⟨gb168, 0, none⟩) (Kd.R_types HO183.out BK168.out (by decide)) (fun _ hk => hk.2) (.slice Ao273 t181.length co273)) (fun _ h_ => h_.1)))); (case side2 => exact (Kd.R_reads' HO183.out).2.1); rintro e w278 ⟨rfl, hb⟩; refine ⟨_, rfl, ?_⟩; have n0_ := AM (Kd.R_below (by exact (Kd.R_mono (Kd.R_far (p := ⟨gb168, 0, none⟩) (Kd.R_types HO180.out BK168.out (by decide)) (fun _ hk => hk.2) (.slice Ao273 t181.length co273)) (fun _ h_ => h_.1))) hb); have n1_ := AM (Kd.R_below (by exact (Kd.R_mono (Kd.R_far (p := ⟨gb168, 0, none⟩) (Kd.R_types HO183.out BK168.out (by decide)) (fun _ hk => hk.2) (.slice Ao273 t181.length co273)) (fun _ h_ => h_.1))) hb); have n2_ := AM (blk_below (g := gb160) (o := .cells #[.slice A0_0 l0_0.length c0_0] 30 (0, 0)) (by (with_reducible repeat (first | refine blk_drewN ?_ _ | refine blk_drew ?_ | refine blk_alloc ?_ _)); refine blk_far ?_ NB160_168.out _; (with_reducible repeat (first | refine blk_drewN ?_ _ | refine blk_drew ?_ | refine blk_alloc ?_ _)); exact BK160.out) hb); have n3_ := AM (blk_below (g := gb161) (o := .cells #[.int .i64 a1_0, .string a1_1, .string a1_2, .string a1_3] 41 (0, 0)) (by (with_reducible repeat (first | refine blk_drewN ?_ _ | refine blk_drew ?_ | refine blk_alloc ?_ _)); refine blk_far ?_ NB161_168.out _; (with_reducible repeat (first | refine blk_drewN ?_ _ | refine blk_drew ?_ | refine blk_alloc ?_ _)); exact BK161.out) hb); have n4_ := AM (blk_below (g := gb162) (o := .cells #[.slice none 0 0] 30 (0, 0)) (by (with_reducible repeat (first | refine blk_drewN ?_ _ | refine blk_drew ?_ | refine blk_alloc ?_ _)); refine blk_far ?_ NB162_168.out _; (with_reducible repeat (first | refine blk_drewN ?_ _ | refine blk_drew ?_ | refine blk_alloc ?_ _)); exact BK162.out) hb); have n5_ := AM (blk_below (g := gb166) (o := .cells #[.string a1_3, .string x167001_59, .int .i64 x167002_59] 67 (0, 0)) (by (with_reducible repeat (first | refine blk_drewN ?_ _ | refine blk_drew ?_ | refine blk_alloc ?_ _)); refine blk_far ?_ NB166_168.out _; (with_reducible repeat (first | refine blk_drewN ?_ _ | refine blk_drew ?_ | refine blk_alloc ?_ _)); exact BK166.out) hb); have n6_ := AM (blk_below (g := gb168) (o := .cells #[.slice Ao273 t181.length co273] 30 (0, 0)) (by (with_reducible repeat (first | refine blk_drewN ?_ _ | refine blk_drew ?_ | refine blk_alloc ?_ _)); refine blk_put (cs := #[.slice none 0 0]) ?_ 0 _ rfl; (with_reducible repeat (first | refine blk_drewN ?_ _ | refine blk_drew ?_ | refine blk_alloc ?_ _)); exact BK168.out) hb); have n7_ := AM (below_step (hS) hb); clear HO180; clear HO183; clear BK160; clear BK161; clear BK162; clear BK166; clear BK168; clear HB; have HO180 := n0_; have HO183 := n1_; have BK160 := n2_; have BK161 := n3_; have BK162 := n4_; have BK166 := n5_; have BK168 := n6_; have HB := n7_; clear n0_ n1_ n2_ n3_ n4_ n5_ n6_ n7_; (try clear hb); (try clear hk); have hnb279 := NB162_160.out; have hnc279 := NB160_162.out; have hcz280_0 : w278.cell? ⟨gb162, 0, none⟩ = some (.slice none 0 0) := (blk_cell BK162.out 0).trans rfl; have hfz280_0 := blk_frozen BK162.out 0))
        refine bodyPost_ret (results_ct rfl _ _ gb162 30 #[.slice none 0 0] (0, 0) _ rfl (by (with_reducible repeat (first | refine blk_drewN ?_ _ | refine blk_drew ?_ | refine blk_alloc ?_ _)); refine blk_put (cs := #[.slice none 0 0]) ?_ 0 _ rfl; (with_reducible repeat (first | refine blk_drewN ?_ _ | refine blk_drew ?_ | refine blk_alloc ?_ _)); exact BK162.out) Try.underlying30 rfl (by kernel_rfl)) rfl ?_
        exact ⟨_, by first | rfl | (simp [errW_none, errW_some] <;> rfl) | (simp [*, errW_none, errW_some] <;> rfl), by first | exact Kd.R_nil _ _ _ _ _ | exact Kd.N_nil _ _ _ _ _ | exact Kd.V_nil _ _ _ _ _ | exact Kd.Q_nil _ _ _ _ _ | exact Kd.S_nil _ _ _ _ _, hS⟩
     rw [if_neg c188] at H
     have c188b0 : (a1_0 == 3) = false := beq_eq_false_iff_ne.mpr c188
     have c188b1 : (a1_0 != 3) = true := bne_iff_ne.mpr c188
     by_cases c281 : a1_0 = 4
     ·rw [if_pos c281] at H
      have c281b0 : (a1_0 == 4) = true := beq_iff_eq.mpr c281
      have c281b1 : (a1_0 != 4) = false := bne_eq_false_iff_eq.mpr c281
      clear c281
      replace H := bm H
      obtain ⟨t185, A2820, H⟩ := H
      replace H : ((spec_DiskOk.f kj59 t185).bind fun t188 => (if t188 = true then (some (t185, true)) else (some (([] : List (S67)), false)))) = some (r1, r2) := H
      have A282 := AM A2820
      clear A2820
      replace H := bm H
      obtain ⟨t188, A2830, H⟩ := H
      replace H : (if t188 = true then (some (t185, true)) else (some (([] : List (S67)), false))) = some (r1, r2) := H
      have A283 := AM A2830
      clear A2830
      by_cases c284 : t188 = true
      ·subst c284
       have H1 : (some (t185, true)) = some (r1, r2) := by rw [if_pos rfl] at H; exact H
       clear H
       have H := H1
       clear H1
       simp only [Option.some.injEq, Prod.mk.injEq] at H
       obtain ⟨rfl, rfl⟩ := H
       go_wp2_with (first | ((with_reducible refine gate_dst (N := 8) rfl ?_); refine box_event ?hg (N := 8) ?hd (cs := #[.slice none 0 0]) (t := 30) ?hr ?_; (case hd => rfl); (case hg => rfl); (case hr => first | (go_simp; done) | (go_simp; rfl)); intro gb168 hg w285 hbox hb; have n0_ := AM (blk_below (g := gb160) (o := .cells #[.slice A0_0 l0_0.length c0_0] 30 (0, 0)) (bk BK160) hb); have n1_ := AM (blk_below (g := gb161) (o := .cells #[.int .i64 a1_0, .string a1_1, .string a1_2, .string a1_3] 41 (0, 0)) (bk BK161) hb); have n2_ := AM (blk_below (g := gb162) (o := .cells #[.slice none 0 0] 30 (0, 0)) (bk BK162) hb); have n3_ := AM (blk_below (g := gb166) (o := .cells #[.string x167000_59, .string x167001_59, .int .i64 x167002_59] 67 (0, 0)) (bk BK166) hb); have n4_ := AM (below_step (hS) hb); have n5_ := AM (hbox); have n6_ := AM ((by rw [hg]; exact (below_size (hS)) : w.heap.size ≤ gb168)); have n7_ := AM ((by rw [hg]; exact (below_size (hS)) : w.heap.size ≤ gb168)); have n8_ := AM ((by rw [hg]; exact Nat.ne_of_lt (blk_lt (g := gb160) (o := .cells #[.slice A0_0 l0_0.length c0_0] 30 (0, 0)) (bk BK160)) : gb160 ≠ gb168)); have n9_ := AM ((by rw [hg]; exact Nat.ne_of_gt (blk_lt (g := gb160) (o := .cells #[.slice A0_0 l0_0.length c0_0] 30 (0, 0)) (bk BK160)) : gb168 ≠ gb160)); have n10_ := AM ((by rw [hg]; exact Nat.ne_of_lt (blk_lt (g := gb161) (o := .cells #[.int .i64 a1_0, .string a1_1, .string a1_2, .string a1_3] 41 (0, 0)) (bk BK161)) : gb161 ≠ gb168)); have n11_ := AM ((by rw [hg]; exact Nat.ne_of_gt (blk_lt (g := gb161) (o := .cells #[.int .i64 a1_0, .string a1_1, .string a1_2, .string a1_3] 41 (0, 0)) (bk BK161)) : gb168 ≠ gb161)); have n12_ := AM ((by rw [hg]; exact Nat.ne_of_lt (blk_lt (g := gb162) (o := .cells #[.slice none 0 0] 30 (0, 0)) (bk BK162)) : gb162 ≠ gb168)); have n13_ := AM ((by rw [hg]; exact Nat.ne_of_gt (blk_lt (g := gb162) (o := .cells #[.slice none 0 0] 30 (0, 0)) (bk BK162)) : gb168 ≠ gb162)); have n14_ := AM ((by rw [hg]; exact Nat.ne_of_lt (blk_lt (g := gb166) (o := .cells #[.string x167000_59, .string x167001_59, .int .i64 x167002_59] 67 (0, 0)) (bk BK166)) : gb166 ≠ gb168)); have n15_ := AM ((by rw [hg]; exact Nat.ne_of_gt (blk_lt (g := gb166) (o := .cells #[.string x167000_59, .string x167001_59, .int .i64 x167002_59] 67 (0, 0)) (bk BK166)) : gb168 ≠ gb166)); clear BK160; clear BK161; clear BK162; clear BK166; clear HB; have BK160 := n0_; have BK161 := n1_; have BK162 := n2_; have BK166 := n3_; have HB := n4_; have BK168 := n5_; have GW168 := n6_; have GE168 := n7_; have NB160_168 := n8_; have NB168_160 := n9_; have NB161_168 := n10_; have NB168_161 := n11_; have NB162_168 := n12_; have NB168_162 := n13_; have NB166_168 := n14_; have NB168_166 := n15_; clear n0_ n1_ n2_ n3_ n4_ n5_ n6_ n7_ n8_ n9_ n10_ n11_ n12_ n13_ n14_ n15_; clear hb hbox hg; have hnb286 := NB168_160.out; have hnc286 := NB160_168.out; have hnb287 := NB168_161.out; have hnc287 := NB161_168.out; have hnb288 := NB168_162.out; have hnc288 := NB162_168.out; have hnb289 := NB168_166.out; have hnc289 := NB166_168.out; have hcz290_0 : w285.cell? ⟨gb168, 0, none⟩ = some (.slice none 0 0) := (blk_cell BK168.out 0).trans rfl; have hfz290_0 := blk_frozen BK168.out 0; have hnb291 := NB161_160.out; have hnc291 := NB160_161.out; have hnb292 := NB161_162.out; have hnc292 := NB162_161.out; have hnb293 := NB161_166.out; have hnc293 := NB166_161.out; have hcz294_0 : w285.cell? ⟨gb161, 0, none⟩ = some (.int .i64 a1_0) := (blk_cell BK161.out 0).trans rfl; have hcz294_1 : w285.cell? ⟨gb161, 1, none⟩ = some (.string a1_1) := (blk_cell BK161.out 1).trans rfl; have hcz294_2 : w285.cell? ⟨gb161, 2, none⟩ = some (.string a1_2) := (blk_cell BK161.out 2).trans rfl; have hcz294_3 : w285.cell? ⟨gb161, 3, none⟩ = some (.string a1_3) := (blk_cell BK161.out 3).trans rfl; have hfz294_0 := blk_frozen BK161.out 0; have hfz294_1 := blk_frozen BK161.out 1; have hfz294_2 := blk_frozen BK161.out 2; have hfz294_3 := blk_frozen BK161.out 3; have hnb295 := NB160_162.out; have hnc295 := NB162_160.out; have hnb296 := NB160_166.out; have hnc296 := NB166_160.out; have hcz297_0 : w285.cell? ⟨gb160, 0, none⟩ = some (.slice A0_0 l0_0.length c0_0) := (blk_cell BK160.out 0).trans rfl; have hfz297_0 := blk_frozen BK160.out 0) | ((with_reducible refine gate_callee (f := 47) rfl ?_); refine goesL_ (some 123) rfl rfl Try.func47 (by kernel_rfl) rfl #[.agg #[.slice A0_0 l0_0.length c0_0], .string a1_1] rfl (by (try simp only [List.map_toArray, List.map_cons, List.map_nil]); first | done | rfl) ?_; (with_reducible refine (spec_l03Without.calls kj59 _ _ l0_0 a1_1 t185 _ ?side1 ?side2 A282.out).mono ?_); (case side1 => exact Kd.C_below HR0_0.out (hS)); (case side2 => exact HC0_0.out); rintro e w298 ⟨v186, rfl, ho0, hb⟩; refine ⟨_, rfl, ?_⟩; have n0_ := AM (Kd.R_lower (Kd.R_newB ho0 (g := gb166) (o := .cells #[.string x167000_59, .string x167001_59, .int .i64 x167002_59] 67 (0, 0)) (by (with_reducible repeat (first | refine blk_drewN ?_ _ | refine blk_drew ?_ | refine blk_alloc ?_ _)); refine blk_far ?_ NB166_168.out _; (with_reducible repeat (first | refine blk_drewN ?_ _ | refine blk_drew ?_ | refine blk_alloc ?_ _)); exact BK166.out)) (below_size (hS))); have n1_ := AM (blk_below (g := gb160) (o := .cells #[.slice A0_0 l0_0.length c0_0] 30 (0, 0)) (by (with_reducible repeat (first | refine blk_drewN ?_ _ | refine blk_drew ?_ | refine blk_alloc ?_ _)); refine blk_far ?_ NB160_168.out _; (with_reducible repeat (first | refine blk_drewN ?_ _ | refine blk_drew ?_ | refine blk_alloc ?_ _)); exact BK160.out) hb); have n2_ := AM (blk_below (g := gb161) (o := .cells #[.int .i64 a1_0, .string a1_1, .string a1_2, .string a1_3] 41 (0, 0)) (by (with_reducible repeat (first | refine blk_drewN ?_ _ | refine blk_drew ?_ | refine blk_alloc ?_ _)); refine blk_far ?_ NB161_168.out _; (with_reducible repeat (first | refine blk_drewN ?_ _ | refine blk_drew ?_ | refine blk_alloc ?_ _)); exact BK161.out) hb); have n3_ := AM (blk_below (g := gb162) (o := .cells #[.slice none 0 0] 30 (0, 0)) (by (with_reducible repeat (first | refine blk_drewN ?_ _ | refine blk_drew ?_ | refine blk_alloc ?_ _)); refine blk_far ?_ NB162_168.out _; (with_reducible repeat (first | refine blk_drewN ?_ _ | refine blk_drew ?_ | refine blk_alloc ?_ _)); exact BK162.out) hb); have n4_ := AM (blk_below (g := gb166) (o := .cells #[.string x167000_59, .string x167001_59, .int .i64 x167002_59] 67 (0, 0)) (by (with_reducible repeat (first | refine blk_drewN ?_ _ | refine blk_drew ?_ | refine blk_alloc ?_ _)); refine blk_far ?_ NB166_168.out _; (with_reducible repeat (first | refine blk_drewN ?_ _ | refine blk_drew ?_ | refine blk_alloc ?_ _)); exact BK166.out) hb); have n5_ := AM (blk_below (g := gb168) (o := .cells #[.slice none 0 0] 30 (0, 0)) (by (with_reducible repeat (first | refine blk_drewN ?_ _ | refine blk_drew ?_ | refine blk_alloc ?_ _)); refine blk_put (cs := #[.slice none 0 0]) ?_ 0 _ rfl; (with_reducible repeat (first | refine blk_drewN ?_ _ | refine blk_drew ?_ | refine blk_alloc ?_ _)); exact BK168.out) hb); have n6_ := AM (below_step (hS) hb); clear BK160; clear BK161; clear BK162; clear BK166; clear BK168; clear HB; have HO187 := n0_; have BK160 := n1_; have BK161 := n2_; have BK162 := n3_; have BK166 := n4_; have BK168 := n5_; have HB := n6_; clear n0_ n1_ n2_ n3_ n4_ n5_ n6_; (try clear hb); (try clear ho0); obtain ⟨Ao299, co299, eo299⟩ := Kd.R_slice HO187.out; subst eo299; have hcz300_0 : w298.cell? ⟨gb168, 0, none⟩ = some (.slice none 0 0) := (blk_cell BK168.out 0).trans rfl; have hfz300_0 := blk_frozen BK168.out 0) | ((with_reducible refine gate_callee (f := 41) rfl ?_); refine goesL_ (some 125) rfl rfl Try.func41 (by kernel_rfl) rfl #[.agg #[.slice Ao299 t185.length co299]] rfl (by (try simp only [List.map_toArray, List.map_cons, List.map_nil]); first | done | rfl) ?_; (with_reducible refine (spec_DiskOk.calls kj59 _ _ t185 true _ ?side1 ?side2 A283.out).mono ?_); (case side1 => refine (Kd.R_reads' (e := 67) (base := w.heap.size) (ok := fun k_ => (True ∧ k_ ≠ gb166)) (n := t185.length) (c := co299) ?_).2.2; exact (by exact (Kd.R_mono (Kd.R_far (p := ⟨gb168, 0, none⟩) (Kd.R_types HO187.out BK168.out (by decide)) (fun _ hk => hk.2) (.slice Ao299 t185.length co299)) (fun _ h_ => h_.1)))); (case side2 => exact (Kd.R_reads' HO187.out).2.1); rintro e w301 ⟨rfl, hb⟩; refine ⟨_, rfl, ?_⟩; have n0_ := AM (Kd.R_below (by exact (Kd.R_mono (Kd.R_far (p := ⟨gb168, 0, none⟩) (Kd.R_types HO187.out BK168.out (by decide)) (fun _ hk => hk.2) (.slice Ao299 t185.length co299)) (fun _ h_ => h_.1))) hb); have n1_ := AM (blk_below (g := gb160) (o := .cells #[.slice A0_0 l0_0.length c0_0] 30 (0, 0)) (by (with_reducible repeat (first | refine blk_drewN ?_ _ | refine blk_drew ?_ | refine blk_alloc ?_ _)); refine blk_far ?_ NB160_168.out _; (with_reducible repeat (first | refine blk_drewN ?_ _ | refine blk_drew ?_ | refine blk_alloc ?_ _)); exact BK160.out) hb); have n2_ := AM (blk_below (g := gb161) (o := .cells #[.int .i64 a1_0, .string a1_1, .string a1_2, .string a1_3] 41 (0, 0)) (by (with_reducible repeat (first | refine blk_drewN ?_ _ | refine blk_drew ?_ | refine blk_alloc ?_ _)); refine blk_far ?_ NB161_168.out _; (with_reducible repeat (first | refine blk_drewN ?_ _ | refine blk_drew ?_ | refine blk_alloc ?_ _)); exact BK161.out) hb); have n3_ := AM (blk_below (g := gb162) (o := .cells #[.slice none 0 0] 30 (0, 0)) (by (with_reducible repeat (first | refine blk_drewN ?_ _ | refine blk_drew ?_ | refine blk_alloc ?_ _)); refine blk_far ?_ NB162_168.out _; (with_reducible repeat (first | refine blk_drewN ?_ _ | refine blk_drew ?_ | refine blk_alloc ?_ _)); exact BK162.out) hb); have n4_ := AM (blk_below (g := gb166) (o := .cells #[.string x167000_59, .string x167001_59, .int .i64 x167002_59] 67 (0, 0)) (by (with_reducible repeat (first | refine blk_drewN ?_ _ | refine blk_drew ?_ | refine blk_alloc ?_ _)); refine blk_far ?_ NB166_168.out _; (with_reducible repeat (first | refine blk_drewN ?_ _ | refine blk_drew ?_ | refine blk_alloc ?_ _)); exact BK166.out) hb); have n5_ := AM (blk_below (g := gb168) (o := .cells #[.slice Ao299 t185.length co299] 30 (0, 0)) (by (with_reducible repeat (first | refine blk_drewN ?_ _ | refine blk_drew ?_ | refine blk_alloc ?_ _)); refine blk_put (cs := #[.slice none 0 0]) ?_ 0 _ rfl; (with_reducible repeat (first | refine blk_drewN ?_ _ | refine blk_drew ?_ | refine blk_alloc ?_ _)); exact BK168.out) hb); have n6_ := AM (below_step (hS) hb); clear HO187; clear BK160; clear BK161; clear BK162; clear BK166; clear BK168; clear HB; have HO187 := n0_; have BK160 := n1_; have BK161 := n2_; have BK162 := n3_; have BK166 := n4_; have BK168 := n5_; have HB := n6_; clear n0_ n1_ n2_ n3_ n4_ n5_ n6_; (try clear hb); (try clear hk); have hcz302_0 : w301.cell? ⟨gb168, 0, none⟩ = some (.slice Ao299 t185.length co299) := (blk_cell BK168.out 0).trans rfl; have hfz302_0 := blk_frozen BK168.out 0; have hnb303 := NB162_166.out; have hnc303 := NB166_162.out; have hcz304_0 : w301.cell? ⟨gb162, 0, none⟩ = some (.slice none 0 0) := (blk_cell BK162.out 0).trans rfl; have hfz304_0 := blk_frozen BK162.out 0))
       refine bodyPost_ret (results_ct rfl _ _ gb162 30 #[.slice Ao299 t185.length co299] (0, 0) _ rfl (by (with_reducible repeat (first | refine blk_drewN ?_ _ | refine blk_drew ?_ | refine blk_alloc ?_ _)); refine blk_put (cs := #[.slice none 0 0]) ?_ 0 _ rfl; (with_reducible repeat (first | refine blk_drewN ?_ _ | refine blk_drew ?_ | refine blk_alloc ?_ _)); exact BK162.out) Try.underlying30 rfl (by kernel_rfl)) rfl ?_
       exact ⟨_, by first | rfl | (simp [errW_none, errW_some] <;> rfl) | (simp [*, errW_none, errW_some] <;> rfl), by exact Kd.R_mono (Kd.R_far (p := ⟨gb162, 0, none⟩) (Kd.R_types HO187.out BK162.out (by decide)) (fun _ hk => hk.2) (.slice Ao299 t185.length co299)) (fun _ hk => trivial), hS⟩
      replace c284 := Bool.eq_false_iff.mpr c284
      subst c284
      have H1 : (some (([] : List (S67)), false)) = some (r1, r2) := by rw [if_neg (show ¬ (false = true) by decide)] at H; exact H
      clear H
      have H := H1
      clear H1
      simp only [Option.some.injEq, Prod.mk.injEq] at H
      obtain ⟨rfl, rfl⟩ := H
      go_wp2_with (first | ((with_reducible refine gate_dst (N := 8) rfl ?_); refine box_event ?hg (N := 8) ?hd (cs := #[.slice none 0 0]) (t := 30) ?hr ?_; (case hd => rfl); (case hg => rfl); (case hr => first | (go_simp; done) | (go_simp; rfl)); intro gb168 hg w305 hbox hb; have n0_ := AM (blk_below (g := gb160) (o := .cells #[.slice A0_0 l0_0.length c0_0] 30 (0, 0)) (bk BK160) hb); have n1_ := AM (blk_below (g := gb161) (o := .cells #[.int .i64 a1_0, .string a1_1, .string a1_2, .string a1_3] 41 (0, 0)) (bk BK161) hb); have n2_ := AM (blk_below (g := gb162) (o := .cells #[.slice none 0 0] 30 (0, 0)) (bk BK162) hb); have n3_ := AM (blk_below (g := gb166) (o := .cells #[.string x167000_59, .string x167001_59, .int .i64 x167002_59] 67 (0, 0)) (bk BK166) hb); have n4_ := AM (below_step (hS) hb); have n5_ := AM (hbox); have n6_ := AM ((by rw [hg]; exact (below_size (hS)) : w.heap.size ≤ gb168)); have n7_ := AM ((by rw [hg]; exact (below_size (hS)) : w.heap.size ≤ gb168)); have n8_ := AM ((by rw [hg]; exact Nat.ne_of_lt (blk_lt (g := gb160) (o := .cells #[.slice A0_0 l0_0.length c0_0] 30 (0, 0)) (bk BK160)) : gb160 ≠ gb168)); have n9_ := AM ((by rw [hg]; exact Nat.ne_of_gt (blk_lt (g := gb160) (o := .cells #[.slice A0_0 l0_0.length c0_0] 30 (0, 0)) (bk BK160)) : gb168 ≠ gb160)); have n10_ := AM ((by rw [hg]; exact Nat.ne_of_lt (blk_lt (g := gb161) (o := .cells #[.int .i64 a1_0, .string a1_1, .string a1_2, .string a1_3] 41 (0, 0)) (bk BK161)) : gb161 ≠ gb168)); have n11_ := AM ((by rw [hg]; exact Nat.ne_of_gt (blk_lt (g := gb161) (o := .cells #[.int .i64 a1_0, .string a1_1, .string a1_2, .string a1_3] 41 (0, 0)) (bk BK161)) : gb168 ≠ gb161)); have n12_ := AM ((by rw [hg]; exact Nat.ne_of_lt (blk_lt (g := gb162) (o := .cells #[.slice none 0 0] 30 (0, 0)) (bk BK162)) : gb162 ≠ gb168)); have n13_ := AM ((by rw [hg]; exact Nat.ne_of_gt (blk_lt (g := gb162) (o := .cells #[.slice none 0 0] 30 (0, 0)) (bk BK162)) : gb168 ≠ gb162)); have n14_ := AM ((by rw [hg]; exact Nat.ne_of_lt (blk_lt (g := gb166) (o := .cells #[.string x167000_59, .string x167001_59, .int .i64 x167002_59] 67 (0, 0)) (bk BK166)) : gb166 ≠ gb168)); have n15_ := AM ((by rw [hg]; exact Nat.ne_of_gt (blk_lt (g := gb166) (o := .cells #[.string x167000_59, .string x167001_59, .int .i64 x167002_59] 67 (0, 0)) (bk BK166)) : gb168 ≠ gb166)); clear BK160; clear BK161; clear BK162; clear BK166; clear HB; have BK160 := n0_; have BK161 := n1_; have BK162 := n2_; have BK166 := n3_; have HB := n4_; have BK168 := n5_; have GW168 := n6_; have GE168 := n7_; have NB160_168 := n8_; have NB168_160 := n9_; have NB161_168 := n10_; have NB168_161 := n11_; have NB162_168 := n12_; have NB168_162 := n13_; have NB166_168 := n14_; have NB168_166 := n15_; clear n0_ n1_ n2_ n3_ n4_ n5_ n6_ n7_ n8_ n9_ n10_ n11_ n12_ n13_ n14_ n15_; clear hb hbox hg; have hnb306 := NB168_160.out; have hnc306 := NB160_168.out; have hnb307 := NB168_161.out; have hnc307 := NB161_168.out; have hnb308 := NB168_162.out; have hnc308 := NB162_168.out; have hnb309 := NB168_166.out; have hnc309 := NB166_168.out; have hcz310_0 : w305.cell? ⟨gb168, 0, none⟩ = some (.slice none 0 0) := (blk_cell BK168.out 0).trans rfl; have hfz310_0 := blk_frozen BK168.out 0; have hnb311 := NB161_160.out; have hnc311 := NB160_161.out; have hnb312 := NB161_162.out; have hnc312 := NB162_161.out; have hnb313 := NB161_166.out; have hnc313 := NB166_161.out; have hcz314_0 : w305.cell? ⟨gb161, 0, none⟩ = some (.int .i64 a1_0) := (blk_cell BK161.out 0).trans rfl; have hcz314_1 : w305.cell? ⟨gb161, 1, none⟩ = some (.string a1_1) := (blk_cell BK161.out 1).trans rfl; have hcz314_2 : w305.cell? ⟨gb161, 2, none⟩ = some (.string a1_2) := (blk_cell BK161.out 2).trans rfl; have hcz314_3 : w305.cell? ⟨gb161, 3, none⟩ = some (.string a1_3) := (blk_cell BK161.out 3).trans rfl; have hfz314_0 := blk_frozen BK161.out 0; have hfz314_1 := blk_frozen BK161.out 1; have hfz314_2 := blk_frozen BK161.out 2; have hfz314_3 := blk_frozen BK161.out 3; have hnb315 := NB160_162.out; have hnc315 := NB162_160.out; have hnb316 := NB160_166.out; have hnc316 := NB166_160.out; have hcz317_0 : w305.cell? ⟨gb160, 0, none⟩ = some (.slice A0_0 l0_0.length c0_0) := (blk_cell BK160.out 0).trans rfl; have hfz317_0 := blk_frozen BK160.out 0) | ((with_reducible refine gate_callee (f := 47) rfl ?_); refine goesL_ (some 123) rfl rfl Try.func47 (by kernel_rfl) rfl #[.agg #[.slice A0_0 l0_0.length c0_0], .string a1_1] rfl (by (try simp only [List.map_toArray, List.map_cons, List.map_nil]); first | done | rfl) ?_; (with_reducible refine (spec_l03Without.calls kj59 _ _ l0_0 a1_1 t185 _ ?side1 ?side2 A282.out).mono ?_); (case side1 => exact Kd.C_below HR0_0.out (hS)); (case side2 => exact HC0_0.out); rintro e w318 ⟨v186, rfl, ho0, hb⟩; refine ⟨_, rfl, ?_⟩; have n0_ := AM (Kd.R_lower (Kd.R_newB ho0 (g := gb166) (o := .cells #[.string x167000_59, .string x167001_59, .int .i64 x167002_59] 67 (0, 0)) (by (with_reducible repeat (first | refine blk_drewN ?_ _ | refine blk_drew ?_ | refine blk_alloc ?_ _)); refine blk_far ?_ NB166_168.out _; (with_reducible repeat (first | refine blk_drewN ?_ _ | refine blk_drew ?_ | refine blk_alloc ?_ _)); exact BK166.out)) (below_size (hS))); have n1_ := AM (blk_below (g := gb160) (o := .cells #[.slice A0_0 l0_0.length c0_0] 30 (0, 0)) (by (with_reducible repeat (first | refine blk_drewN ?_ _ | refine blk_drew ?_ | refine blk_alloc ?_ _)); refine blk_far ?_ NB160_168.out _; (with_reducible repeat (first | refine blk_drewN ?_ _ | refine blk_drew ?_ | refine blk_alloc ?_ _)); exact BK160.out) hb); have n2_ := AM (blk_below (g := gb161) (o := .cells #[.int .i64 a1_0, .string a1_1, .string a1_2, .string a1_3] 41 (0, 0)) (by (with_reducible repeat (first | refine blk_drewN ?_ _ | refine blk_drew ?_ | refine blk_alloc ?_ _)); refine blk_far ?_ NB161_168.out _; (with_reducible repeat (first | refine blk_drewN ?_ _ | refine blk_drew ?_ | refine blk_alloc ?_ _)); exact BK161.out) hb); have n3_ := AM (blk_below (g := gb162) (o := .cells #[.slice none 0 0] 30 (0, 0)) (by (with_reducible repeat (first | refine blk_drewN ?_ _ | refine blk_drew ?_ | refine blk_alloc ?_ _)); refine blk_far ?_ NB162_168.out _; (with_reducible repeat (first | refine blk_drewN ?_ _ | refine blk_drew ?_ | refine blk_alloc ?_ _)); exact BK162.out) hb); have n4_ := AM (blk_below (g := gb166) (o := .cells #[.string x167000_59, .string x167001_59, .int .i64 x167002_59] 67 (0, 0)) (by (with_reducible repeat (first | refine blk_drewN ?_ _ | refine blk_drew ?_ | refine blk_alloc ?_ _)); refine blk_far ?_ NB166_168.out _; (with_reducible repeat (first | refine blk_drewN ?_ _ | refine blk_drew ?_ | refine blk_alloc ?_ _)); exact BK166.out) hb); have n5_ := AM (blk_below (g := gb168) (o := .cells #[.slice none 0 0] 30 (0, 0)) (by (with_reducible repeat (first | refine blk_drewN ?_ _ | refine blk_drew ?_ | refine blk_alloc ?_ _)); refine blk_put (cs := #[.slice none 0 0]) ?_ 0 _ rfl; (with_reducible repeat (first | refine blk_drewN ?_ _ | refine blk_drew ?_ | refine blk_alloc ?_ _)); exact BK168.out) hb); have n6_ := AM (below_step (hS) hb); clear BK160; clear BK161; clear BK162; clear BK166; clear BK168; clear HB; have HO187 := n0_; have BK160 := n1_; have BK161 := n2_; have BK162 := n3_; have BK166 := n4_; have BK168 := n5_; have HB := n6_; clear n0_ n1_ n2_ n3_ n4_ n5_ n6_; (try clear hb); (try clear ho0); obtain ⟨Ao319, co319, eo319⟩ := Kd.R_slice HO187.out; subst eo319; have hcz320_0 : w318.cell? ⟨gb168, 0, none⟩ = some (.slice none 0 0) := (blk_cell BK168.out 0).trans rfl; have hfz320_0 := blk_frozen BK168.out 0) | ((with_reducible refine gate_callee (f := 41) rfl ?_); refine goesL_ (some 125) rfl rfl Try.func41 (by kernel_rfl) rfl #[.agg #[.slice Ao319 t185.length co319]] rfl (by (try simp only [List.map_toArray, List.map_cons, List.map_nil]); first | done | rfl) ?_; (with_reducible refine (spec_DiskOk.calls kj59 _ _ t185 false _ ?side1 ?side2 A283.out).mono ?_); (case side1 => refine (Kd.R_reads' (e := 67) (base := w.heap.size) (ok := fun k_ => (True ∧ k_ ≠ gb166)) (n := t185.length) (c := co319) ?_).2.2; exact (by exact (Kd.R_mono (Kd.R_far (p := ⟨gb168, 0, none⟩) (Kd.R_types HO187.out BK168.out (by decide)) (fun _ hk => hk.2) (.slice Ao319 t185.length co319)) (fun _ h_ => h_.1)))); (case side2 => exact (Kd.R_reads' HO187.out).2.1); rintro e w321 ⟨rfl, hb⟩; refine ⟨_, rfl, ?_⟩; have n0_ := AM (Kd.R_below (by exact (Kd.R_mono (Kd.R_far (p := ⟨gb168, 0, none⟩) (Kd.R_types HO187.out BK168.out (by decide)) (fun _ hk => hk.2) (.slice Ao319 t185.length co319)) (fun _ h_ => h_.1))) hb); have n1_ := AM (blk_below (g := gb160) (o := .cells #[.slice A0_0 l0_0.length c0_0] 30 (0, 0)) (by (with_reducible repeat (first | refine blk_drewN ?_ _ | refine blk_drew ?_ | refine blk_alloc ?_ _)); refine blk_far ?_ NB160_168.out _; (with_reducible repeat (first | refine blk_drewN ?_ _ | refine blk_drew ?_ | refine blk_alloc ?_ _)); exact BK160.out) hb); have n2_ := AM (blk_below (g := gb161) (o := .cells #[.int .i64 a1_0, .string a1_1, .string a1_2, .string a1_3] 41 (0, 0)) (by (with_reducible repeat (first | refine blk_drewN ?_ _ | refine blk_drew ?_ | refine blk_alloc ?_ _)); refine blk_far ?_ NB161_168.out _; (with_reducible repeat (first | refine blk_drewN ?_ _ | refine blk_drew ?_ | refine blk_alloc ?_ _)); exact BK161.out) hb); have n3_ := AM (blk_below (g := gb162) (o := .cells #[.slice none 0 0] 30 (0, 0)) (by (with_reducible repeat (first | refine blk_drewN ?_ _ | refine blk_drew ?_ | refine blk_alloc ?_ _)); refine blk_far ?_ NB162_168.out _; (with_reducible repeat (first | refine blk_drewN ?_ _ | refine blk_drew ?_ | refine blk_alloc ?_ _)); exact BK162.out) hb); have n4_ := AM (blk_below (g := gb166) (o := .cells #[.string x167000_59, .string x167001_59, .int .i64 x167002_59] 67 (0, 0)) (by (with_reducible repeat (first | refine blk_drewN ?_ _ | refine blk_drew ?_ | refine blk_alloc ?_ _)); refine blk_far ?_ NB166_168.out _; (with_reducible repeat (first | refine blk_drewN ?_ _ | refine blk_drew ?_ | refine blk_alloc ?_ _)); exact BK166.out) hb); have n5_ := AM (blk_below (g := gb168) (o := .cells #[.slice Ao319 t185.length co319] 30 (0, 0)) (by (with_reducible repeat (first | refine blk_drewN ?_ _ | refine blk_drew ?_ | refine blk_alloc ?_ _)); refine blk_put (cs := #[.slice none 0 0]) ?_ 0 _ rfl; (with_reducible repeat (first | refine blk_drewN ?_ _ | refine blk_drew ?_ | refine blk_alloc ?_ _)); exact BK168.out) hb); have n6_ := AM (below_step (hS) hb); clear HO187; clear BK160; clear BK161; clear BK162; clear BK166; clear BK168; clear HB; have HO187 := n0_; have BK160 := n1_; have BK161 := n2_; have BK162 := n3_; have BK166 := n4_; have BK168 := n5_; have HB := n6_; clear n0_ n1_ n2_ n3_ n4_ n5_ n6_; (try clear hb); (try clear hk); have hnb322 := NB162_166.out; have hnc322 := NB166_162.out; have hcz323_0 : w321.cell? ⟨gb162, 0, none⟩ = some (.slice none 0 0) := (blk_cell BK162.out 0).trans rfl; have hfz323_0 := blk_frozen BK162.out 0))
      refine bodyPost_ret (results_ct rfl _ _ gb162 30 #[.slice none 0 0] (0, 0) _ rfl (by (with_reducible repeat (first | refine blk_drewN ?_ _ | refine blk_drew ?_ | refine blk_alloc ?_ _)); refine blk_put (cs := #[.slice none 0 0]) ?_ 0 _ rfl; (with_reducible repeat (first | refine blk_drewN ?_ _ | refine blk_drew ?_ | refine blk_alloc ?_ _)); exact BK162.out) Try.underlying30 rfl (by kernel_rfl)) rfl ?_
      exact ⟨_, by first | rfl | (simp [errW_none, errW_some] <;> rfl) | (simp [*, errW_none, errW_some] <;> rfl), by first | exact Kd.R_nil _ _ _ _ _ | exact Kd.N_nil _ _ _ _ _ | exact Kd.V_nil _ _ _ _ _ | exact Kd.Q_nil _ _ _ _ _ | exact Kd.S_nil _ _ _ _ _, hS⟩
     rw [if_neg c281] at H
     have c281b0 : (a1_0 == 4) = false := beq_eq_false_iff_ne.mpr c281
     have c281b1 : (a1_0 != 4) = true := bne_iff_ne.mpr c281
     simp only [Option.some.injEq, Prod.mk.injEq] at H
     obtain ⟨rfl, rfl⟩ := H
     go_wp2_with (first | ((with_reducible refine gate_dst (N := 8) rfl ?_); refine box_event ?hg (N := 8) ?hd (cs := #[.slice none 0 0]) (t := 30) ?hr ?_; (case hd => rfl); (case hg => rfl); (case hr => first | (go_simp; done) | (go_simp; rfl)); intro gb168 hg w324 hbox hb; have n0_ := AM (blk_below (g := gb160) (o := .cells #[.slice A0_0 l0_0.length c0_0] 30 (0, 0)) (bk BK160) hb); have n1_ := AM (blk_below (g := gb161) (o := .cells #[.int .i64 a1_0, .string a1_1, .string a1_2, .string a1_3] 41 (0, 0)) (bk BK161) hb); have n2_ := AM (blk_below (g := gb162) (o := .cells #[.slice none 0 0] 30 (0, 0)) (bk BK162) hb); have n3_ := AM (blk_below (g := gb166) (o := .cells #[.string x167000_59, .string x167001_59, .int .i64 x167002_59] 67 (0, 0)) (bk BK166) hb); have n4_ := AM (below_step (hS) hb); have n5_ := AM (hbox); have n6_ := AM ((by rw [hg]; exact (below_size (hS)) : w.heap.size ≤ gb168)); have n7_ := AM ((by rw [hg]; exact (below_size (hS)) : w.heap.size ≤ gb168)); have n8_ := AM ((by rw [hg]; exact Nat.ne_of_lt (blk_lt (g := gb160) (o := .cells #[.slice A0_0 l0_0.length c0_0] 30 (0, 0)) (bk BK160)) : gb160 ≠ gb168)); have n9_ := AM ((by rw [hg]; exact Nat.ne_of_gt (blk_lt (g := gb160) (o := .cells #[.slice A0_0 l0_0.length c0_0] 30 (0, 0)) (bk BK160)) : gb168 ≠ gb160)); have n10_ := AM ((by rw [hg]; exact Nat.ne_of_lt (blk_lt (g := gb161) (o := .cells #[.int .i64 a1_0, .string a1_1, .string a1_2, .string a1_3] 41 (0, 0)) (bk BK161)) : gb161 ≠ gb168)); have n11_ := AM ((by rw [hg]; exact Nat.ne_of_gt (blk_lt (g := gb161) (o := .cells #[.int .i64 a1_0, .string a1_1, .string a1_2, .string a1_3] 41 (0, 0)) (bk BK161)) : gb168 ≠ gb161)); have n12_ := AM ((by rw [hg]; exact Nat.ne_of_lt (blk_lt (g := gb162) (o := .cells #[.slice none 0 0] 30 (0, 0)) (bk BK162)) : gb162 ≠ gb168)); have n13_ := AM ((by rw [hg]; exact Nat.ne_of_gt (blk_lt (g := gb162) (o := .cells #[.slice none 0 0] 30 (0, 0)) (bk BK162)) : gb168 ≠ gb162)); have n14_ := AM ((by rw [hg]; exact Nat.ne_of_lt (blk_lt (g := gb166) (o := .cells #[.string x167000_59, .string x167001_59, .int .i64 x167002_59] 67 (0, 0)) (bk BK166)) : gb166 ≠ gb168)); have n15_ := AM ((by rw [hg]; exact Nat.ne_of_gt (blk_lt (g := gb166) (o := .cells #[.string x167000_59, .string x167001_59, .int .i64 x167002_59] 67 (0, 0)) (bk BK166)) : gb168 ≠ gb166)); clear BK160; clear BK161; clear BK162; clear BK166; clear HB; have BK160 := n0_; have BK161 := n1_; have BK162 := n2_; have BK166 := n3_; have HB := n4_; have BK168 := n5_; have GW168 := n6_; have GE168 := n7_; have NB160_168 := n8_; have NB168_160 := n9_; have NB161_168 := n10_; have NB168_161 := n11_; have NB162_168 := n12_; have NB168_162 := n13_; have NB166_168 := n14_; have NB168_166 := n15_; clear n0_ n1_ n2_ n3_ n4_ n5_ n6_ n7_ n8_ n9_ n10_ n11_ n12_ n13_ n14_ n15_; clear hb hbox hg; have hnb325 := NB168_160.out; have hnc325 := NB160_168.out; have hnb326 := NB168_161.out; have hnc326 := NB161_168.out; have hnb327 := NB168_162.out; have hnc327 := NB162_168.out; have hnb328 := NB168_166.out; have hnc328 := NB166_168.out; have hcz329_0 : w324.cell? ⟨gb168, 0, none⟩ = some (.slice none 0 0) := (blk_cell BK168.out 0).trans rfl; have hfz329_0 := blk_frozen BK168.out 0; have hnb330 := NB161_160.out; have hnc330 := NB160_161.out; have hnb331 := NB161_162.out; have hnc331 := NB162_161.out; have hnb332 := NB161_166.out; have hnc332 := NB166_161.out; have hcz333_0 : w324.cell? ⟨gb161, 0, none⟩ = some (.int .i64 a1_0) := (blk_cell BK161.out 0).trans rfl; have hcz333_1 : w324.cell? ⟨gb161, 1, none⟩ = some (.string a1_1) := (blk_cell BK161.out 1).trans rfl; have hcz333_2 : w324.cell? ⟨gb161, 2, none⟩ = some (.string a1_2) := (blk_cell BK161.out 2).trans rfl; have hcz333_3 : w324.cell? ⟨gb161, 3, none⟩ = some (.string a1_3) := (blk_cell BK161.out 3).trans rfl; have hfz333_0 := blk_frozen BK161.out 0; have hfz333_1 := blk_frozen BK161.out 1; have hfz333_2 := blk_frozen BK161.out 2; have hfz333_3 := blk_frozen BK161.out 3; have hnb334 := NB162_160.out; have hnc334 := NB160_162.out; have hnb335 := NB162_166.out; have hnc335 := NB166_162.out; have hcz336_0 : w324.cell? ⟨gb162, 0, none⟩ = some (.slice none 0 0) := (blk_cell BK162.out 0).trans rfl; have hfz336_0 := blk_frozen BK162.out 0))
     refine bodyPost_ret (results_ct rfl _ _ gb162 30 #[.slice none 0 0] (0, 0) _ rfl (by (with_reducible repeat (first | refine blk_drewN ?_ _ | refine blk_drew ?_ | refine blk_alloc ?_ _)); refine blk_put (cs := #[.slice none 0 0]) ?_ 0 _ rfl; (with_reducible repeat (first | refine blk_drewN ?_ _ | refine blk_drew ?_ | refine blk_alloc ?_ _)); refine blk_far ?_ NB162_168.out _; (with_reducible repeat (first | refine blk_drewN ?_ _ | refine blk_drew ?_ | refine blk_alloc ?_ _)); exact BK162.out) Try.underlying30 rfl (by kernel_rfl)) rfl ?_
     exact ⟨_, by first | rfl | (simp [errW_none, errW_some] <;> rfl) | (simp [*, errW_none, errW_some] <;> rfl), by first | exact Kd.R_nil _ _ _ _ _ | exact Kd.N_nil _ _ _ _ _ | exact Kd.V_nil _ _ _ _ _ | exact Kd.Q_nil _ _ _ _ _ | exact Kd.S_nil _ _ _ _ _, hS⟩

end Go.Proofs.Ytnkldnkolcighaa.XFnExactDoAct
