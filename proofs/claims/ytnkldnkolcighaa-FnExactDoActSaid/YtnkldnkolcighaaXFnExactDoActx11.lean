/- What the functions of a law compute, and that their calls compute it: written by a program of this session (xprint.py), which turns the kit print at a few places. -/
import Derived.Test.YtnkldnkolcighaaXFnExactDoActx0
import Derived.Test.YtnkldnkolcighaaXFnExactDoActx1
import Derived.Test.YtnkldnkolcighaaXFnExactDoActx2
import Derived.Test.YtnkldnkolcighaaXFnExactDoActx5
import Derived.Test.YtnkldnkolcighaaXFnExactDoActx6
import Derived.Test.YtnkldnkolcighaaXFnExactDoActx8
import Derived.Test.YtnkldnkolcighaaXFnExactDoActx9
import Derived.Test.YtnkldnkolcighaaXFnExactDoActx10
namespace Go.Proofs.Ytnkldnkolcighaa.XFnExactDoAct
open Go.RowKit Go.Proofs.YtnkldnkolcighaaV.PrintWords Go.Proofs.YtnkldnkolcighaaV.PrintLast Go.Proofs.YtnkldnkolcighaaV.PrintMore
attribute [local go_sem] max2_int min2_int max_two min_two max_three min_three max_four min_four str_geq str_gtr   -- for this text's walks alone
set_option linter.unusedVariables false
set_option linter.unusedSimpArgs false

/-! ### laws_FnExactDoAct: function 5 -/
mutual
def laws_FnExactDoAct.j0 : Nat → Bool → Bool → Bool → List (S91) → Int → ByteArray → ByteArray → ByteArray → List (S67) → List (S67) → List (S67) → Option (Bool)
 | 0, _, _, _, _, _, _, _, _, _, _, _ => none
 | k + 1, x7, x10, x51, x211000, x212000, x212001, x212002, x212003, x226000, x230000, x239000 => if x51 = true then (some false) else ((laws_toDisk.f k x211000).bind fun t240 => ((laws_eqDisk.f k x230000 t240).bind fun t243 => (if t243 = true then ((laws_markDisk.f k x230000 1).bind fun bt244 => (if bt244.1 < 0 then (laws_FnExactDoAct.j1 k x7 true x211000 x212000 x212001 x212002 x212003 x226000 x239000) else ((laws_eqDisk.f k x239000 x226000).bind fun t246 => (if t246 = true then (laws_FnExactDoAct.j1 k x7 (x10 != x7) x211000 x212000 x212001 x212002 x212003 x226000 x239000) else (laws_FnExactDoAct.j1 k x7 true x211000 x212000 x212001 x212002 x212003 x226000 x239000))))) else (some false))))
def laws_FnExactDoAct.j1 : Nat → Bool → Bool → List (S91) → Int → ByteArray → ByteArray → ByteArray → List (S67) → List (S67) → Option (Bool)
 | 0, _, _, _, _, _, _, _, _, _ => none
 | k + 1, x7, x72, x211000, x212000, x212001, x212002, x212003, x226000, x239000 => if x72 = true then (some false) else ((laws_markDisk.f k x239000 1).bind fun bt247 => ((laws_heldDisk.f k bt247.2 1).bind fun t249 => (if t249 < 0 then (some false) else (if t249 = bt247.1 then ((laws_toDisk.f k x211000).bind fun t250 => ((laws_toAct.f x212000 x212001 x212002 x212003).bind fun bt253 => ((impl_DoAct.f k t250 bt253.1 bt253.2.1 bt253.2.2.1 bt253.2.2.2).bind fun bt257 => ((laws_eqDisk.f k bt257.1 x226000).bind fun t262 => (if t262 = true then (laws_FnExactDoAct.j2 k bt247.1 (bt257.2 != x7) bt247.2) else (laws_FnExactDoAct.j2 k bt247.1 true bt247.2)))))) else (some false)))))
def laws_FnExactDoAct.j2 : Nat → Int → Bool → List (S67) → Option (Bool)
 | 0, _, _, _ => none
 | k + 1, x12, x100, x239000 => if x100 = true then (some false) else ((laws_heldDisk.f k x239000 1).bind fun t263 => (if t263 < 0 then (some false) else (if t263 = x12 then (some true) else (some false))))
end
def laws_FnExactDoAct.f (k : Nat) (l0_0 : List (S91)) (a1_0 : Int) (a1_1 : ByteArray) (a1_2 : ByteArray) (a1_3 : ByteArray) : Option (Bool) := (laws_szDisk.f k l0_0 1048576).bind fun t212 => (if t212 < 0 then (some true) else ((laws_szAct.f a1_0 a1_1 a1_2 a1_3 t212).bind fun t213 => (if t213 < 0 then (some true) else ((laws_toDisk.f k l0_0).bind fun t214 => ((laws_toAct.f a1_0 a1_1 a1_2 a1_3).bind fun bt217 => ((spec_DoAct.f k t214 bt217.1 bt217.2.1 bt217.2.2.1 bt217.2.2.2).bind fun bt221 => ((laws_toDisk.f k l0_0).bind fun t226 => ((laws_toAct.f a1_0 a1_1 a1_2 a1_3).bind fun bt230 => ((impl_DoAct.f k t226 bt230.1 bt230.2.1 bt230.2.2.1 bt230.2.2.2).bind fun bt234 => ((laws_eqDisk.f k bt234.1 bt221.1).bind fun t239 => (if t239 = true then (laws_FnExactDoAct.j0 k bt221.2 bt234.2 (bt234.2 != bt221.2) l0_0 a1_0 a1_1 a1_2 a1_3 bt221.1 t226 bt234.1) else (laws_FnExactDoAct.j0 k bt221.2 bt234.2 true l0_0 a1_0 a1_1 a1_2 a1_3 bt221.1 t226 bt234.1))))))))))))
theorem laws_FnExactDoAct.mono_l : ∀ k, (∀ y0 y1 y2 y3 y4 y5 y6 y7 y8 y9 y10, LeO (laws_FnExactDoAct.j0 k y0 y1 y2 y3 y4 y5 y6 y7 y8 y9 y10) (laws_FnExactDoAct.j0 (k + 1) y0 y1 y2 y3 y4 y5 y6 y7 y8 y9 y10)) ∧ (∀ y0 y1 y2 y3 y4 y5 y6 y7 y8, LeO (laws_FnExactDoAct.j1 k y0 y1 y2 y3 y4 y5 y6 y7 y8) (laws_FnExactDoAct.j1 (k + 1) y0 y1 y2 y3 y4 y5 y6 y7 y8)) ∧ (∀ y0 y1 y2, LeO (laws_FnExactDoAct.j2 k y0 y1 y2) (laws_FnExactDoAct.j2 (k + 1) y0 y1 y2))
 | 0 => ⟨fun _ _ _ _ _ _ _ _ _ _ _ r h => by simp [laws_FnExactDoAct.j0] at h, fun _ _ _ _ _ _ _ _ _ r h => by simp [laws_FnExactDoAct.j1] at h, fun _ _ _ r h => by simp [laws_FnExactDoAct.j2] at h⟩
 | k + 1 => by
  obtain ⟨ih0, ih1, ih2⟩ := laws_FnExactDoAct.mono_l k
  refine ⟨?_, ?_, ?_⟩
  ·intro y0 y1 y2 y3 y4 y5 y6 y7 y8 y9 y10
   unfold laws_FnExactDoAct.j0
   repeat' first
   | (with_reducible exact LeO.refl _)
   | (with_reducible refine LeO.ite ?_ ?_)
   | (with_reducible refine LeO.bind ?_ (fun _ => ?_))
   | exact ih0 _ _ _ _ _ _ _ _ _ _ _
   | exact ih1 _ _ _ _ _ _ _ _ _
   | exact ih2 _ _ _
   | exact impl_DoAct.mono _ _ _ _ _ _
   | exact laws_eqDisk.mono _ _ _
   | exact laws_heldDisk.mono _ _ _
   | exact laws_markDisk.mono _ _ _
   | exact laws_szDisk.mono _ _ _
   | exact laws_toDisk.mono _ _
   | exact spec_DoAct.mono _ _ _ _ _ _
   | exact LeO.none _
   | refine LeO.ite ?_ ?_
   | refine LeO.bind ?_ (fun _ => ?_)
  ·intro y0 y1 y2 y3 y4 y5 y6 y7 y8
   unfold laws_FnExactDoAct.j1
   repeat' first
   | (with_reducible exact LeO.refl _)
   | (with_reducible refine LeO.ite ?_ ?_)
   | (with_reducible refine LeO.bind ?_ (fun _ => ?_))
   | exact ih0 _ _ _ _ _ _ _ _ _ _ _
   | exact ih1 _ _ _ _ _ _ _ _ _
   | exact ih2 _ _ _
   | exact impl_DoAct.mono _ _ _ _ _ _
   | exact laws_eqDisk.mono _ _ _
   | exact laws_heldDisk.mono _ _ _
   | exact laws_markDisk.mono _ _ _
   | exact laws_szDisk.mono _ _ _
   | exact laws_toDisk.mono _ _
   | exact spec_DoAct.mono _ _ _ _ _ _
   | exact LeO.none _
   | refine LeO.ite ?_ ?_
   | refine LeO.bind ?_ (fun _ => ?_)
  intro y0 y1 y2
  unfold laws_FnExactDoAct.j2
  repeat' first
  | (with_reducible exact LeO.refl _)
  | (with_reducible refine LeO.ite ?_ ?_)
  | (with_reducible refine LeO.bind ?_ (fun _ => ?_))
  | exact ih0 _ _ _ _ _ _ _ _ _ _ _
  | exact ih1 _ _ _ _ _ _ _ _ _
  | exact ih2 _ _ _
  | exact impl_DoAct.mono _ _ _ _ _ _
  | exact laws_eqDisk.mono _ _ _
  | exact laws_heldDisk.mono _ _ _
  | exact laws_markDisk.mono _ _ _
  | exact laws_szDisk.mono _ _ _
  | exact laws_toDisk.mono _ _
  | exact spec_DoAct.mono _ _ _ _ _ _
  | exact LeO.none _
  | refine LeO.ite ?_ ?_
  | refine LeO.bind ?_ (fun _ => ?_)
theorem laws_FnExactDoAct.mono : ∀ a0 a1 a2 a3 a4 k, LeO (laws_FnExactDoAct.f k a0 a1 a2 a3 a4) (laws_FnExactDoAct.f (k + 1) a0 a1 a2 a3 a4) := by
 intro a0 a1 a2 a3 a4 k
 obtain ⟨ih0, ih1, ih2⟩ := laws_FnExactDoAct.mono_l k
 unfold laws_FnExactDoAct.f
 repeat' first
   | (with_reducible exact LeO.refl _)
   | (with_reducible refine LeO.ite ?_ ?_)
   | (with_reducible refine LeO.bind ?_ (fun _ => ?_))
   | exact ih0 _ _ _ _ _ _ _ _ _ _ _
   | exact ih1 _ _ _ _ _ _ _ _ _
   | exact ih2 _ _ _
   | exact impl_DoAct.mono _ _ _ _ _ _
   | exact laws_eqDisk.mono _ _ _
   | exact laws_heldDisk.mono _ _ _
   | exact laws_markDisk.mono _ _ _
   | exact laws_szDisk.mono _ _ _
   | exact laws_toDisk.mono _ _
   | exact spec_DoAct.mono _ _ _ _ _ _
   | exact LeO.none _
   | refine LeO.ite ?_ ?_
   | refine LeO.bind ?_ (fun _ => ?_)
def laws_FnExactDoAct.T8 : Bool × List (List Nat × List Nat) := (true, [([], []), ([0], [0]), ([], []), ([2, 1], [2]), ([1, 3, 3], [1, 3]), ([4], [4]), ([5], [5]), ([5], [5]), ([], []), ([8, 6, 4, 0, 1, 2, 3, 4, 5, 6, 8], [6, 8]), ([7, 9, 0, 1, 2, 3, 4, 5, 6, 7, 8, 9], [7])])
def laws_FnExactDoAct.B8 : List Nat := [0, 1, 0, 7, 15, 31, 63, 63, 0, 383, 1023]
theorem laws_FnExactDoAct.tab8 : rtab .any (opsOf Try.f5 8) = laws_FnExactDoAct.T8 := by kernel_rfl
theorem laws_FnExactDoAct.bits8 : waitsOk laws_FnExactDoAct.T8.2 laws_FnExactDoAct.B8 = true := by kernel_rfl
def laws_FnExactDoAct.T10 : Bool × List (List Nat × List Nat) := (true, [([], []), ([], []), ([1], [1]), ([0, 2, 2], [0, 2]), ([3], [3]), ([4], [4]), ([4], [4]), ([], []), ([7, 5, 3, 0, 1, 2, 3, 4, 5, 7], [5, 7]), ([6, 8, 0, 1, 2, 3, 4, 5, 6, 7, 8], [6])])
def laws_FnExactDoAct.B10 : List Nat := [0, 0, 2, 7, 15, 31, 31, 0, 191, 511]
theorem laws_FnExactDoAct.tab10 : rtab .any (opsOf Try.f5 10) = laws_FnExactDoAct.T10 := by kernel_rfl
theorem laws_FnExactDoAct.bits10 : waitsOk laws_FnExactDoAct.T10.2 laws_FnExactDoAct.B10 = true := by kernel_rfl
def laws_FnExactDoAct.T27 : Bool × List (List Nat × List Nat) := (true, [([], []), ([0], [0]), ([], []), ([2, 1], [2]), ([1, 3, 3], [1, 3]), ([4], [4]), ([5], [5]), ([5], [5]), ([], []), ([8, 6, 4, 0, 1, 2, 3, 4, 5, 6, 8], [6, 8]), ([7, 9, 0, 1, 2, 3, 4, 5, 6, 7, 8, 9], [7])])
def laws_FnExactDoAct.B27 : List Nat := [0, 1, 0, 7, 15, 31, 63, 63, 0, 383, 1023]
theorem laws_FnExactDoAct.tab27 : rtab .any (opsOf Try.f5 27) = laws_FnExactDoAct.T27 := by kernel_rfl
theorem laws_FnExactDoAct.bits27 : waitsOk laws_FnExactDoAct.T27.2 laws_FnExactDoAct.B27 = true := by kernel_rfl
set_option maxHeartbeats 8000000 in
set_option maxRecDepth 100000 in
theorem laws_FnExactDoAct.calls (k : Nat) (A0_0 : Option Addr) (c0_0 : Nat) (l0_0 : List (S91)) (a1_0 : Int) (a1_1 : ByteArray) (a1_2 : ByteArray) (a1_3 : ByteArray) (r : Bool) (w : World) (hr0_0 : Kd.C k91 w A0_0 l0_0.length l0_0) (hc0_0 : l0_0.length ≤ c0_0) (h : laws_FnExactDoAct.f k l0_0 a1_0 a1_1 a1_2 a1_3 = some r) (hT : Aside0 (r = true) := by exact ⟨rfl⟩) :
  Calls Try.prog 5 #[.agg #[.slice A0_0 l0_0.length c0_0], .agg #[.int .i64 a1_0, .string a1_1, .string a1_2, .string a1_3]] w fun e w' => e = .returned (.bool r) ∧ Below w.heap.size w w' := by
 have hu24 := Try.underlying24
 have hu37 := Try.underlying37
 have hu30 := Try.underlying30
 have HR0_0 := AM hr0_0
 have HC0_0 := AM hc0_0
 clear hr0_0 hc0_0
 have HB := AM (Below.refl w.heap.size w)
 have H : ((laws_szDisk.f k l0_0 1048576).bind fun t212 => (if t212 < 0 then (some true) else ((laws_szAct.f a1_0 a1_1 a1_2 a1_3 t212).bind fun t213 => (if t213 < 0 then (some true) else ((laws_toDisk.f k l0_0).bind fun t214 => ((laws_toAct.f a1_0 a1_1 a1_2 a1_3).bind fun bt217 => ((spec_DoAct.f k t214 bt217.1 bt217.2.1 bt217.2.2.1 bt217.2.2.2).bind fun bt221 => ((laws_toDisk.f k l0_0).bind fun t226 => ((laws_toAct.f a1_0 a1_1 a1_2 a1_3).bind fun bt230 => ((impl_DoAct.f k t226 bt230.1 bt230.2.1 bt230.2.2.1 bt230.2.2.2).bind fun bt234 => ((laws_eqDisk.f k bt234.1 bt221.1).bind fun t239 => (if t239 = true then (laws_FnExactDoAct.j0 k bt221.2 bt234.2 (bt234.2 != bt221.2) l0_0 a1_0 a1_1 a1_2 a1_3 bt221.1 t226 bt234.1) else (laws_FnExactDoAct.j0 k bt221.2 bt234.2 true l0_0 a1_0 a1_1 a1_2 a1_3 bt221.1 t226 bt234.1))))))))))))) = some r := h
 clear h
 replace H := bm H
 obtain ⟨t212, A30, H⟩ := H
 replace H : (if t212 < 0 then (some true) else ((laws_szAct.f a1_0 a1_1 a1_2 a1_3 t212).bind fun t213 => (if t213 < 0 then (some true) else ((laws_toDisk.f k l0_0).bind fun t214 => ((laws_toAct.f a1_0 a1_1 a1_2 a1_3).bind fun bt217 => ((spec_DoAct.f k t214 bt217.1 bt217.2.1 bt217.2.2.1 bt217.2.2.2).bind fun bt221 => ((laws_toDisk.f k l0_0).bind fun t226 => ((laws_toAct.f a1_0 a1_1 a1_2 a1_3).bind fun bt230 => ((impl_DoAct.f k t226 bt230.1 bt230.2.1 bt230.2.2.1 bt230.2.2.2).bind fun bt234 => ((laws_eqDisk.f k bt234.1 bt221.1).bind fun t239 => (if t239 = true then (laws_FnExactDoAct.j0 k bt221.2 bt234.2 (bt234.2 != bt221.2) l0_0 a1_0 a1_1 a1_2 a1_3 bt221.1 t226 bt234.1) else (laws_FnExactDoAct.j0 k bt221.2 bt234.2 true l0_0 a1_0 a1_1 a1_2 a1_3 bt221.1 t226 bt234.1)))))))))))) = some r := H
 have A3 := AM A30
 clear A30
 by_cases c4 : t212 < 0
 ·rw [if_pos c4] at H
  have c4b0 : decide (t212 < 0) = true := decide_eq_true c4
  clear c4
  obtain rfl := Option.some.inj H
  go_enter Try.func5, Try.ntmps5
  go_wp2_with (first | ((with_reducible refine gate_dst (N := 2) rfl ?_); refine box_event ?hg (N := 2) ?hd (cs := #[.slice A0_0 l0_0.length c0_0]) (t := 24) ?hr ?_; (case hd => rfl); (case hg => rfl); (case hr => first | (go_simp; done) | (go_simp; rfl)); intro gb210 hg w5 hbox hb; have n0_ := AM (below_step (hB HB) hb); have n1_ := AM (hbox); have n2_ := AM ((by rw [hg]; exact (below_size (hB HB)) : w.heap.size ≤ gb210)); have n3_ := AM ((by rw [hg]; exact (below_size (hB HB)) : w.heap.size ≤ gb210)); clear HB; have HB := n0_; have BK210 := n1_; have GW210 := n2_; have GE210 := n3_; clear n0_ n1_ n2_ n3_; clear hb hbox hg) | ((with_reducible refine gate_dst (N := 3) rfl ?_); refine box_event ?hg (N := 3) ?hd (cs := #[.int .i64 a1_0, .string a1_1, .string a1_2, .string a1_3]) (t := 37) ?hr ?_; (case hd => rfl); (case hg => rfl); (case hr => first | (go_simp; done) | (go_simp; rfl)); intro gb211 hg w6 hbox hb; have n0_ := AM (blk_below (g := gb210) (o := .cells #[.slice A0_0 l0_0.length c0_0] 24 (0, 0)) (bk BK210) hb); have n1_ := AM (below_step (hS) hb); have n2_ := AM (hbox); have n3_ := AM ((by rw [hg]; exact (below_size (hS)) : w.heap.size ≤ gb211)); have n4_ := AM ((by rw [hg]; exact (below_size (hS)) : w.heap.size ≤ gb211)); have n5_ := AM ((by rw [hg]; exact Nat.ne_of_lt (blk_lt (g := gb210) (o := .cells #[.slice A0_0 l0_0.length c0_0] 24 (0, 0)) (bk BK210)) : gb210 ≠ gb211)); have n6_ := AM ((by rw [hg]; exact Nat.ne_of_gt (blk_lt (g := gb210) (o := .cells #[.slice A0_0 l0_0.length c0_0] 24 (0, 0)) (bk BK210)) : gb211 ≠ gb210)); clear BK210; clear HB; have BK210 := n0_; have HB := n1_; have BK211 := n2_; have GW211 := n3_; have GE211 := n4_; have NB210_211 := n5_; have NB211_210 := n6_; clear n0_ n1_ n2_ n3_ n4_ n5_ n6_; clear hb hbox hg; have hnb7 := NB210_211.out; have hnc7 := NB211_210.out; have hcz8_0 : w6.cell? ⟨gb210, 0, none⟩ = some (.slice A0_0 l0_0.length c0_0) := (blk_cell BK210.out 0).trans rfl; have hfz8_0 := blk_frozen BK210.out 0) | ((with_reducible refine gate_callee (f := 9) rfl ?_); refine goesL_ (some 18) rfl rfl Try.func9 (by kernel_rfl) rfl #[.agg #[.slice A0_0 l0_0.length c0_0], .int .i64 1048576] rfl (by (try simp only [List.map_toArray, List.map_cons, List.map_nil]); first | done | rfl) ?_; (with_reducible refine (laws_szDisk.calls k _ _ l0_0 1048576 t212 _ ?side1 ?side2 A3.out).mono ?_); (case side1 => repeat (first | exact (Kd.C_below HR0_0.out HB.out) | (with_reducible refine Kd.C_alloc ?_ _) | (with_reducible refine Kd.C_drewN ?_ _) | (with_reducible refine Kd.C_drew ?_))); (case side2 => exact HC0_0.out); rintro e w9 ⟨rfl, hb⟩; refine ⟨_, rfl, ?_⟩; have n0_ := AM (blk_below (g := gb210) (o := .cells #[.slice A0_0 l0_0.length c0_0] 24 (0, 0)) (bk BK210) hb); have n1_ := AM (blk_below (g := gb211) (o := .cells #[.int .i64 a1_0, .string a1_1, .string a1_2, .string a1_3] 37 (0, 0)) (bk BK211) hb); have n2_ := AM (below_step (hS) hb); clear BK210; clear BK211; clear HB; have BK210 := n0_; have BK211 := n1_; have HB := n2_; clear n0_ n1_ n2_; (try clear hb)))
  go_ret
  exact ⟨by first | rfl | (simp [errW_none, errW_some] <;> rfl) | (simp [*, errW_none, errW_some] <;> rfl), hS⟩
 rw [if_neg c4] at H
 have c4b0 : decide (t212 < 0) = false := decide_eq_false c4
 clear c4
 replace H := bm H
 obtain ⟨t213, A100, H⟩ := H
 replace H : (if t213 < 0 then (some true) else ((laws_toDisk.f k l0_0).bind fun t214 => ((laws_toAct.f a1_0 a1_1 a1_2 a1_3).bind fun bt217 => ((spec_DoAct.f k t214 bt217.1 bt217.2.1 bt217.2.2.1 bt217.2.2.2).bind fun bt221 => ((laws_toDisk.f k l0_0).bind fun t226 => ((laws_toAct.f a1_0 a1_1 a1_2 a1_3).bind fun bt230 => ((impl_DoAct.f k t226 bt230.1 bt230.2.1 bt230.2.2.1 bt230.2.2.2).bind fun bt234 => ((laws_eqDisk.f k bt234.1 bt221.1).bind fun t239 => (if t239 = true then (laws_FnExactDoAct.j0 k bt221.2 bt234.2 (bt234.2 != bt221.2) l0_0 a1_0 a1_1 a1_2 a1_3 bt221.1 t226 bt234.1) else (laws_FnExactDoAct.j0 k bt221.2 bt234.2 true l0_0 a1_0 a1_1 a1_2 a1_3 bt221.1 t226 bt234.1)))))))))) = some r := H
 have A10 := AM A100
 clear A100
 by_cases c11 : t213 < 0
 ·rw [if_pos c11] at H
  have c11b0 : decide (t213 < 0) = true := decide_eq_true c11
  clear c11
  obtain rfl := Option.some.inj H
  go_enter Try.func5, Try.ntmps5
  go_wp2_with (first | ((with_reducible refine gate_dst (N := 2) rfl ?_); refine box_event ?hg (N := 2) ?hd (cs := #[.slice A0_0 l0_0.length c0_0]) (t := 24) ?hr ?_; (case hd => rfl); (case hg => rfl); (case hr => first | (go_simp; done) | (go_simp; rfl)); intro gb210 hg w12 hbox hb; have n0_ := AM (below_step (hB HB) hb); have n1_ := AM (hbox); have n2_ := AM ((by rw [hg]; exact (below_size (hB HB)) : w.heap.size ≤ gb210)); have n3_ := AM ((by rw [hg]; exact (below_size (hB HB)) : w.heap.size ≤ gb210)); clear HB; have HB := n0_; have BK210 := n1_; have GW210 := n2_; have GE210 := n3_; clear n0_ n1_ n2_ n3_; clear hb hbox hg) | ((with_reducible refine gate_dst (N := 3) rfl ?_); refine box_event ?hg (N := 3) ?hd (cs := #[.int .i64 a1_0, .string a1_1, .string a1_2, .string a1_3]) (t := 37) ?hr ?_; (case hd => rfl); (case hg => rfl); (case hr => first | (go_simp; done) | (go_simp; rfl)); intro gb211 hg w13 hbox hb; have n0_ := AM (blk_below (g := gb210) (o := .cells #[.slice A0_0 l0_0.length c0_0] 24 (0, 0)) (bk BK210) hb); have n1_ := AM (below_step (hS) hb); have n2_ := AM (hbox); have n3_ := AM ((by rw [hg]; exact (below_size (hS)) : w.heap.size ≤ gb211)); have n4_ := AM ((by rw [hg]; exact (below_size (hS)) : w.heap.size ≤ gb211)); have n5_ := AM ((by rw [hg]; exact Nat.ne_of_lt (blk_lt (g := gb210) (o := .cells #[.slice A0_0 l0_0.length c0_0] 24 (0, 0)) (bk BK210)) : gb210 ≠ gb211)); have n6_ := AM ((by rw [hg]; exact Nat.ne_of_gt (blk_lt (g := gb210) (o := .cells #[.slice A0_0 l0_0.length c0_0] 24 (0, 0)) (bk BK210)) : gb211 ≠ gb210)); clear BK210; clear HB; have BK210 := n0_; have HB := n1_; have BK211 := n2_; have GW211 := n3_; have GE211 := n4_; have NB210_211 := n5_; have NB211_210 := n6_; clear n0_ n1_ n2_ n3_ n4_ n5_ n6_; clear hb hbox hg; have hnb14 := NB210_211.out; have hnc14 := NB211_210.out; have hcz15_0 : w13.cell? ⟨gb210, 0, none⟩ = some (.slice A0_0 l0_0.length c0_0) := (blk_cell BK210.out 0).trans rfl; have hfz15_0 := blk_frozen BK210.out 0) | ((with_reducible refine gate_callee (f := 9) rfl ?_); refine goesL_ (some 18) rfl rfl Try.func9 (by kernel_rfl) rfl #[.agg #[.slice A0_0 l0_0.length c0_0], .int .i64 1048576] rfl (by (try simp only [List.map_toArray, List.map_cons, List.map_nil]); first | done | rfl) ?_; (with_reducible refine (laws_szDisk.calls k _ _ l0_0 1048576 t212 _ ?side1 ?side2 A3.out).mono ?_); (case side1 => repeat (first | exact (Kd.C_below HR0_0.out HB.out) | (with_reducible refine Kd.C_alloc ?_ _) | (with_reducible refine Kd.C_drewN ?_ _) | (with_reducible refine Kd.C_drew ?_))); (case side2 => exact HC0_0.out); rintro e w16 ⟨rfl, hb⟩; refine ⟨_, rfl, ?_⟩; have n0_ := AM (blk_below (g := gb210) (o := .cells #[.slice A0_0 l0_0.length c0_0] 24 (0, 0)) (bk BK210) hb); have n1_ := AM (blk_below (g := gb211) (o := .cells #[.int .i64 a1_0, .string a1_1, .string a1_2, .string a1_3] 37 (0, 0)) (bk BK211) hb); have n2_ := AM (below_step (hS) hb); clear BK210; clear BK211; clear HB; have BK210 := n0_; have BK211 := n1_; have HB := n2_; clear n0_ n1_ n2_; (try clear hb); have hcz17_0 : w16.cell? ⟨gb211, 0, none⟩ = some (.int .i64 a1_0) := (blk_cell BK211.out 0).trans rfl; have hcz17_1 : w16.cell? ⟨gb211, 1, none⟩ = some (.string a1_1) := (blk_cell BK211.out 1).trans rfl; have hcz17_2 : w16.cell? ⟨gb211, 2, none⟩ = some (.string a1_2) := (blk_cell BK211.out 2).trans rfl; have hcz17_3 : w16.cell? ⟨gb211, 3, none⟩ = some (.string a1_3) := (blk_cell BK211.out 3).trans rfl; have hfz17_0 := blk_frozen BK211.out 0; have hfz17_1 := blk_frozen BK211.out 1; have hfz17_2 := blk_frozen BK211.out 2; have hfz17_3 := blk_frozen BK211.out 3) | ((with_reducible refine gate_callee (f := 16) rfl ?_); refine goesL_ (some 23) rfl rfl Try.func16 (by kernel_rfl) rfl #[.agg #[.int .i64 a1_0, .string a1_1, .string a1_2, .string a1_3], .int .i64 t212] rfl (by (try simp only [List.map_toArray, List.map_cons, List.map_nil]); first | done | rfl) ?_; (with_reducible refine (laws_szAct.calls a1_0 a1_1 a1_2 a1_3 t212 t213 _ A10.out).mono ?_); rintro e w18 ⟨rfl, hb⟩; refine ⟨_, rfl, ?_⟩; have n0_ := AM (blk_below (g := gb210) (o := .cells #[.slice A0_0 l0_0.length c0_0] 24 (0, 0)) (bk BK210) hb); have n1_ := AM (blk_below (g := gb211) (o := .cells #[.int .i64 a1_0, .string a1_1, .string a1_2, .string a1_3] 37 (0, 0)) (bk BK211) hb); have n2_ := AM (below_step (hS) hb); clear BK210; clear BK211; clear HB; have BK210 := n0_; have BK211 := n1_; have HB := n2_; clear n0_ n1_ n2_; (try clear hb)))
  go_ret
  exact ⟨by first | rfl | (simp [errW_none, errW_some] <;> rfl) | (simp [*, errW_none, errW_some] <;> rfl), hS⟩
 rw [if_neg c11] at H
 have c11b0 : decide (t213 < 0) = false := decide_eq_false c11
 clear c11
 replace H := bm H
 obtain ⟨t214, A190, H⟩ := H
 replace H : ((laws_toAct.f a1_0 a1_1 a1_2 a1_3).bind fun bt217 => ((spec_DoAct.f k t214 bt217.1 bt217.2.1 bt217.2.2.1 bt217.2.2.2).bind fun bt221 => ((laws_toDisk.f k l0_0).bind fun t226 => ((laws_toAct.f a1_0 a1_1 a1_2 a1_3).bind fun bt230 => ((impl_DoAct.f k t226 bt230.1 bt230.2.1 bt230.2.2.1 bt230.2.2.2).bind fun bt234 => ((laws_eqDisk.f k bt234.1 bt221.1).bind fun t239 => (if t239 = true then (laws_FnExactDoAct.j0 k bt221.2 bt234.2 (bt234.2 != bt221.2) l0_0 a1_0 a1_1 a1_2 a1_3 bt221.1 t226 bt234.1) else (laws_FnExactDoAct.j0 k bt221.2 bt234.2 true l0_0 a1_0 a1_1 a1_2 a1_3 bt221.1 t226 bt234.1)))))))) = some r := H
 have A19 := AM A190
 clear A190
 replace H := bm H
 obtain ⟨⟨t217, t218, t219, t220⟩, A200, H⟩ := H
 replace H : ((spec_DoAct.f k t214 t217 t218 t219 t220).bind fun bt221 => ((laws_toDisk.f k l0_0).bind fun t226 => ((laws_toAct.f a1_0 a1_1 a1_2 a1_3).bind fun bt230 => ((impl_DoAct.f k t226 bt230.1 bt230.2.1 bt230.2.2.1 bt230.2.2.2).bind fun bt234 => ((laws_eqDisk.f k bt234.1 bt221.1).bind fun t239 => (if t239 = true then (laws_FnExactDoAct.j0 k bt221.2 bt234.2 (bt234.2 != bt221.2) l0_0 a1_0 a1_1 a1_2 a1_3 bt221.1 t226 bt234.1) else (laws_FnExactDoAct.j0 k bt221.2 bt234.2 true l0_0 a1_0 a1_1 a1_2 a1_3 bt221.1 t226 bt234.1))))))) = some r := H
 have A20 := AM A200
 clear A200
 replace H := bm H
 obtain ⟨⟨t221, t224⟩, A210, H⟩ := H
 replace H : ((laws_toDisk.f k l0_0).bind fun t226 => ((laws_toAct.f a1_0 a1_1 a1_2 a1_3).bind fun bt230 => ((impl_DoAct.f k t226 bt230.1 bt230.2.1 bt230.2.2.1 bt230.2.2.2).bind fun bt234 => ((laws_eqDisk.f k bt234.1 t221).bind fun t239 => (if t239 = true then (laws_FnExactDoAct.j0 k t224 bt234.2 (bt234.2 != t224) l0_0 a1_0 a1_1 a1_2 a1_3 t221 t226 bt234.1) else (laws_FnExactDoAct.j0 k t224 bt234.2 true l0_0 a1_0 a1_1 a1_2 a1_3 t221 t226 bt234.1)))))) = some r := H
 have A21 := AM A210
 clear A210
 replace H := bm H
 obtain ⟨t226, A220, H⟩ := H
 replace H : ((laws_toAct.f a1_0 a1_1 a1_2 a1_3).bind fun bt230 => ((impl_DoAct.f k t226 bt230.1 bt230.2.1 bt230.2.2.1 bt230.2.2.2).bind fun bt234 => ((laws_eqDisk.f k bt234.1 t221).bind fun t239 => (if t239 = true then (laws_FnExactDoAct.j0 k t224 bt234.2 (bt234.2 != t224) l0_0 a1_0 a1_1 a1_2 a1_3 t221 t226 bt234.1) else (laws_FnExactDoAct.j0 k t224 bt234.2 true l0_0 a1_0 a1_1 a1_2 a1_3 t221 t226 bt234.1))))) = some r := H
 have A22 := AM A220
 clear A220
 replace H := bm H
 obtain ⟨⟨t230, t231, t232, t233⟩, A230, H⟩ := H
 replace H : ((impl_DoAct.f k t226 t230 t231 t232 t233).bind fun bt234 => ((laws_eqDisk.f k bt234.1 t221).bind fun t239 => (if t239 = true then (laws_FnExactDoAct.j0 k t224 bt234.2 (bt234.2 != t224) l0_0 a1_0 a1_1 a1_2 a1_3 t221 t226 bt234.1) else (laws_FnExactDoAct.j0 k t224 bt234.2 true l0_0 a1_0 a1_1 a1_2 a1_3 t221 t226 bt234.1)))) = some r := H
 have A23 := AM A230
 clear A230
 replace H := bm H
 obtain ⟨⟨t234, t237⟩, A240, H⟩ := H
 replace H : ((laws_eqDisk.f k t234 t221).bind fun t239 => (if t239 = true then (laws_FnExactDoAct.j0 k t224 t237 (t237 != t224) l0_0 a1_0 a1_1 a1_2 a1_3 t221 t226 t234) else (laws_FnExactDoAct.j0 k t224 t237 true l0_0 a1_0 a1_1 a1_2 a1_3 t221 t226 t234))) = some r := H
 have A24 := AM A240
 clear A240
 have HC25 := AM H
 clear H
 go_enter Try.func5, Try.ntmps5
 try go_wp2_with (first | ((with_reducible refine gate_dst (N := 2) rfl ?_); refine box_event ?hg (N := 2) ?hd (cs := #[.slice A0_0 l0_0.length c0_0]) (t := 24) ?hr ?_; (case hd => rfl); (case hg => rfl); (case hr => first | (go_simp; done) | (go_simp; rfl)); intro gb210 hg w26 hbox hb; have n0_ := AM (below_step (hB HB) hb); have n1_ := AM (hbox); have n2_ := AM ((by rw [hg]; exact (below_size (hB HB)) : w.heap.size ≤ gb210)); have n3_ := AM ((by rw [hg]; exact (below_size (hB HB)) : w.heap.size ≤ gb210)); clear HB; have HB := n0_; have BK210 := n1_; have GW210 := n2_; have GE210 := n3_; clear n0_ n1_ n2_ n3_; clear hb hbox hg) | ((with_reducible refine gate_dst (N := 3) rfl ?_); refine box_event ?hg (N := 3) ?hd (cs := #[.int .i64 a1_0, .string a1_1, .string a1_2, .string a1_3]) (t := 37) ?hr ?_; (case hd => rfl); (case hg => rfl); (case hr => first | (go_simp; done) | (go_simp; rfl)); intro gb211 hg w27 hbox hb; have n0_ := AM (blk_below (g := gb210) (o := .cells #[.slice A0_0 l0_0.length c0_0] 24 (0, 0)) (bk BK210) hb); have n1_ := AM (below_step (hS) hb); have n2_ := AM (hbox); have n3_ := AM ((by rw [hg]; exact (below_size (hS)) : w.heap.size ≤ gb211)); have n4_ := AM ((by rw [hg]; exact (below_size (hS)) : w.heap.size ≤ gb211)); have n5_ := AM ((by rw [hg]; exact Nat.ne_of_lt (blk_lt (g := gb210) (o := .cells #[.slice A0_0 l0_0.length c0_0] 24 (0, 0)) (bk BK210)) : gb210 ≠ gb211)); have n6_ := AM ((by rw [hg]; exact Nat.ne_of_gt (blk_lt (g := gb210) (o := .cells #[.slice A0_0 l0_0.length c0_0] 24 (0, 0)) (bk BK210)) : gb211 ≠ gb210)); clear BK210; clear HB; have BK210 := n0_; have HB := n1_; have BK211 := n2_; have GW211 := n3_; have GE211 := n4_; have NB210_211 := n5_; have NB211_210 := n6_; clear n0_ n1_ n2_ n3_ n4_ n5_ n6_; clear hb hbox hg; have hnb28 := NB210_211.out; have hnc28 := NB211_210.out; have hcz29_0 : w27.cell? ⟨gb210, 0, none⟩ = some (.slice A0_0 l0_0.length c0_0) := (blk_cell BK210.out 0).trans rfl; have hfz29_0 := blk_frozen BK210.out 0) | ((with_reducible refine gate_callee (f := 9) rfl ?_); refine goesL_ (some 18) rfl rfl Try.func9 (by kernel_rfl) rfl #[.agg #[.slice A0_0 l0_0.length c0_0], .int .i64 1048576] rfl (by (try simp only [List.map_toArray, List.map_cons, List.map_nil]); first | done | rfl) ?_; (with_reducible refine (laws_szDisk.calls k _ _ l0_0 1048576 t212 _ ?side1 ?side2 A3.out).mono ?_); (case side1 => repeat (first | exact (Kd.C_below HR0_0.out HB.out) | (with_reducible refine Kd.C_alloc ?_ _) | (with_reducible refine Kd.C_drewN ?_ _) | (with_reducible refine Kd.C_drew ?_))); (case side2 => exact HC0_0.out); rintro e w30 ⟨rfl, hb⟩; refine ⟨_, rfl, ?_⟩; have n0_ := AM (blk_below (g := gb210) (o := .cells #[.slice A0_0 l0_0.length c0_0] 24 (0, 0)) (bk BK210) hb); have n1_ := AM (blk_below (g := gb211) (o := .cells #[.int .i64 a1_0, .string a1_1, .string a1_2, .string a1_3] 37 (0, 0)) (bk BK211) hb); have n2_ := AM (below_step (hS) hb); clear BK210; clear BK211; clear HB; have BK210 := n0_; have BK211 := n1_; have HB := n2_; clear n0_ n1_ n2_; (try clear hb); have hcz31_0 : w30.cell? ⟨gb211, 0, none⟩ = some (.int .i64 a1_0) := (blk_cell BK211.out 0).trans rfl; have hcz31_1 : w30.cell? ⟨gb211, 1, none⟩ = some (.string a1_1) := (blk_cell BK211.out 1).trans rfl; have hcz31_2 : w30.cell? ⟨gb211, 2, none⟩ = some (.string a1_2) := (blk_cell BK211.out 2).trans rfl; have hcz31_3 : w30.cell? ⟨gb211, 3, none⟩ = some (.string a1_3) := (blk_cell BK211.out 3).trans rfl; have hfz31_0 := blk_frozen BK211.out 0; have hfz31_1 := blk_frozen BK211.out 1; have hfz31_2 := blk_frozen BK211.out 2; have hfz31_3 := blk_frozen BK211.out 3) | ((with_reducible refine gate_callee (f := 16) rfl ?_); refine goesL_ (some 23) rfl rfl Try.func16 (by kernel_rfl) rfl #[.agg #[.int .i64 a1_0, .string a1_1, .string a1_2, .string a1_3], .int .i64 t212] rfl (by (try simp only [List.map_toArray, List.map_cons, List.map_nil]); first | done | rfl) ?_; (with_reducible refine (laws_szAct.calls a1_0 a1_1 a1_2 a1_3 t212 t213 _ A10.out).mono ?_); rintro e w32 ⟨rfl, hb⟩; refine ⟨_, rfl, ?_⟩; have n0_ := AM (blk_below (g := gb210) (o := .cells #[.slice A0_0 l0_0.length c0_0] 24 (0, 0)) (bk BK210) hb); have n1_ := AM (blk_below (g := gb211) (o := .cells #[.int .i64 a1_0, .string a1_1, .string a1_2, .string a1_3] 37 (0, 0)) (bk BK211) hb); have n2_ := AM (below_step (hS) hb); clear BK210; clear BK211; clear HB; have BK210 := n0_; have BK211 := n1_; have HB := n2_; clear n0_ n1_ n2_; (try clear hb); (try clear hb2); (try clear hk); (try clear hi)))
 have n0_ := AM (blk_drew BK210.out)
 have n1_ := AM (blk_drew BK211.out)
 have n2_ := AM (below_drew1 HB.out)
 clear BK210
 clear BK211
 clear HB
 have BK210 := n0_
 have BK211 := n1_
 have HB := n2_
 clear n0_ n1_ n2_
 refine start_ (n := 11) (S := fun w' => w'.cell? ⟨gb210, 0, none⟩ = some (.slice A0_0 l0_0.length c0_0) ∧ w'.cell? ⟨gb211, 0, none⟩ = some (.int .i64 a1_0) ∧ w'.cell? ⟨gb211, 1, none⟩ = some (.string a1_1) ∧ w'.cell? ⟨gb211, 2, none⟩ = some (.string a1_2) ∧ w'.cell? ⟨gb211, 3, none⟩ = some (.string a1_3)) (ds := []) #[false, false, false, false, false, false, false, false, false, false, false] (by kernel_rfl) rfl rfl ⟨(blk_cell BK210.out 0).trans rfl, (blk_cell BK211.out 0).trans rfl, (blk_cell BK211.out 1).trans rfl, (blk_cell BK211.out 2).trans rfl, (blk_cell BK211.out 3).trans rfl⟩ (fun hHeld => ?_); refine with_tabW laws_FnExactDoAct.tab8 laws_FnExactDoAct.bits8 (fun HT_ HW_ => ?_)
 generalize w32.drew = w33 at BK210 BK211 HB hHeld ⊢
 refine take_ (i := 0) (N := some 27) (v := ?_) (a' := ?_) #[true, false, false, false, false, false, false, false, false, false, false] rfl rfl (take_ofW HT_.out HW_.out (by kernel_rfl)) (fun _ _ _ h => h) (Or.inl ⟨by rfl, ?_⟩) hHeld ?_ ?_
 rotate_left
 ·rintro w' ⟨s0, s1, s2, s3, s4⟩
  go_simp
  with_reducible rfl
 rotate_left
 ·simp only [Act.put, qT, q0, qS, i64_w, i32_w]
  rfl
 refine take_ (i := 2) (N := some 29) (v := ?_) (a' := ?_) #[true, false, true, false, false, false, false, false, false, false, false] rfl rfl (take_ofW HT_.out HW_.out (by kernel_rfl)) (fun _ _ _ h => h) (Or.inl ⟨by rfl, ?_⟩) hHeld ?_ ?_
 rotate_left
 ·rintro w' ⟨s0, s1, s2, s3, s4⟩
  go_simp
  with_reducible rfl
 rotate_left
 ·simp only [Act.put, qT, q0, qS, i64_w, i32_w]
  rfl
 refine join_ (σ := Value × Value × Nat) 2 #[true, true, true, true, true, true, true, true, true, false, false] (fun s_ => [(28, .agg #[s_.1]), (30, .agg #[.int .i64 t217, .string t218, .string t219, .string t220]), (31, .tuple #[.agg #[s_.2.1], .bool t224]), (6, .pointer (some ⟨s_.2.2, 0, none⟩)), (26, .tuple #[.agg #[s_.2.1], .bool t224]), (32, .agg #[s_.2.1]), (33, .bool t224)]) (fun s_ w' => (w'.cell? ⟨gb210, 0, none⟩ = some (.slice A0_0 l0_0.length c0_0) ∧ w'.cell? ⟨gb211, 0, none⟩ = some (.int .i64 a1_0) ∧ w'.cell? ⟨gb211, 1, none⟩ = some (.string a1_1) ∧ w'.cell? ⟨gb211, 2, none⟩ = some (.string a1_2) ∧ w'.cell? ⟨gb211, 3, none⟩ = some (.string a1_3)) ∧ (Kd.R k67 67 w' w.heap.size (fun k_ => some k_ ≠ (s_.2.1 : Value).ownBlock) s_.1 t214) ∧ (Kd.R k67 67 w' w.heap.size (fun k_ => some k_ ≠ (s_.1 : Value).ownBlock) s_.2.1 t221) ∧ (w'.heap[gb210]? = some (.cells #[.slice A0_0 l0_0.length c0_0] 24 (0, 0))) ∧ (w'.heap[gb211]? = some (.cells #[.int .i64 a1_0, .string a1_1, .string a1_2, .string a1_3] 37 (0, 0))) ∧ (w'.heap[s_.2.2]? = some (.cells #[.slice none 0 0] 30 (0, 0))) ∧ (w.heap.size ≤ s_.2.2) ∧ (w.heap.size ≤ s_.2.2) ∧ (gb210 ≠ s_.2.2) ∧ (s_.2.2 ≠ gb210) ∧ (gb211 ≠ s_.2.2) ∧ (s_.2.2 ≠ gb211) ∧ (Below w.heap.size w w')) ?_ ?_
 rotate_left
 ·intro hCont
  refine two_ (i := 1) (j := 8) (Ni := some 28) (Nj := some 6) #[true, true, true, false, false, false, false, false, false, false, false] #[true, false, true, false, false, false, false, false, true, false, false] rfl rfl rfl rfl (two_of HT_.out (by kernel_rfl)) (by decide) (by decide) (fun K hK => ?_) (fun K hK => ?_)
  ·skip
   refine goes_ Try.func11 (by kernel_rfl) rfl #[.agg #[.slice A0_0 l0_0.length c0_0]] (by rfl) rfl rfl (by (try simp only [List.map_toArray, List.map_cons, List.map_nil]); first | done | rfl) ?_
   with_reducible refine (laws_toDisk.calls k _ _ l0_0 t214 _ ?side1 ?side2 A19.out).mono ?_
   (case side1 => repeat (first | exact (Kd.C_below HR0_0.out HB.out) | (with_reducible refine Kd.C_alloc ?_ _) | (with_reducible refine Kd.C_drewN ?_ _) | (with_reducible refine Kd.C_drew ?_)))
   (case side2 => exact HC0_0.out)
   rintro e w34 ⟨v215, rfl, ho0, hb⟩
   refine ⟨_, rfl, ?_⟩
   have n0_ := AM (Kd.R_lower ho0 (below_size (hS)))
   have n1_ := AM (blk_below (g := gb210) (o := .cells #[.slice A0_0 l0_0.length c0_0] 24 (0, 0)) (bk BK210) hb)
   have n2_ := AM (blk_below (g := gb211) (o := .cells #[.int .i64 a1_0, .string a1_1, .string a1_2, .string a1_3] 37 (0, 0)) (bk BK211) hb)
   have n3_ := AM (below_step (hS) hb)
   clear BK210
   clear BK211
   clear HB
   have HO216 := n0_
   have BK210 := n1_
   have BK211 := n2_
   have HB := n3_
   clear n0_ n1_ n2_ n3_
   (try clear hb)
   (try clear hb2)
   (try clear hk)
   (try clear hi)
   (try clear ho0)
   refine hK.out _ _ ⟨(blk_cell BK210.out 0).trans rfl, (blk_cell BK211.out 0).trans rfl, (blk_cell BK211.out 1).trans rfl, (blk_cell BK211.out 2).trans rfl, (blk_cell BK211.out 3).trans rfl⟩ (fun hHeld => ?_)
   clear hK K
   refine norm_ (a' := ?_) ?_ ?_
   rotate_left
   ·show Act.put _ (some 28) _ = _
    simp only [Act.put, qT, q0, qS, i64_w, i32_w]
    rfl
   refine two_ (i := 3) (j := 8) (Ni := some 30) (Nj := some 6) #[true, true, true, true, false, false, false, false, false, false, false] #[true, true, true, false, false, false, false, false, true, false, false] rfl rfl rfl rfl (two_of HT_.out (by kernel_rfl)) (by decide) (by decide) (fun K hK => ?_) (fun K hK => ?_)
   ·skip
    refine goes_ Try.func18 (by kernel_rfl) rfl #[.agg #[.int .i64 a1_0, .string a1_1, .string a1_2, .string a1_3]] (by rfl) rfl rfl (by (try simp only [List.map_toArray, List.map_cons, List.map_nil]); first | done | rfl) ?_
    with_reducible refine (laws_toAct.calls a1_0 a1_1 a1_2 a1_3 t217 t218 t219 t220 _ A20.out).mono ?_
    rintro e w35 ⟨rfl, hb⟩
    refine ⟨_, rfl, ?_⟩
    have n0_ := AM (Kd.R_below (by exact HO216.out) hb)
    have n1_ := AM (blk_below (g := gb210) (o := .cells #[.slice A0_0 l0_0.length c0_0] 24 (0, 0)) (bk BK210) hb)
    have n2_ := AM (blk_below (g := gb211) (o := .cells #[.int .i64 a1_0, .string a1_1, .string a1_2, .string a1_3] 37 (0, 0)) (bk BK211) hb)
    have n3_ := AM (below_step (hS) hb)
    clear HO216
    clear BK210
    clear BK211
    clear HB
    have HO216 := n0_
    have BK210 := n1_
    have BK211 := n2_
    have HB := n3_
    clear n0_ n1_ n2_ n3_
    (try clear hb)
    (try clear hb2)
    (try clear hk)
    (try clear hi)
    obtain ⟨Ao36, co36, eo36⟩ := Kd.R_slice HO216.out
    (first | subst eo36 | (injection eo36 with f1_ f2_ f3_; have f4_ := f1_.symm; have f5_ := f3_.symm; clear f1_ f2_ f3_; subst f4_; subst f5_))
    refine hK.out _ _ ⟨(blk_cell BK210.out 0).trans rfl, (blk_cell BK211.out 0).trans rfl, (blk_cell BK211.out 1).trans rfl, (blk_cell BK211.out 2).trans rfl, (blk_cell BK211.out 3).trans rfl⟩ (fun hHeld => ?_)
    clear hK K
    refine norm_ (a' := ?_) ?_ ?_
    rotate_left
    ·show Act.put _ (some 30) _ = _
     simp only [Act.put, qT, q0, qS, i64_w, i32_w]
     rfl
    refine two_ (i := 4) (j := 8) (Ni := some 31) (Nj := some 6) #[true, true, true, true, true, false, false, false, false, false, false] #[true, true, true, true, false, false, false, false, true, false, false] rfl rfl rfl rfl (two_of HT_.out (by kernel_rfl)) (by decide) (by decide) (fun K hK => ?_) (fun K hK => ?_)
    ·skip
     refine goes_ Try.func17 (by kernel_rfl) rfl #[.agg #[.slice Ao36 t214.length co36], .agg #[.int .i64 t217, .string t218, .string t219, .string t220]] (by rfl) rfl rfl (by (try simp only [List.map_toArray, List.map_cons, List.map_nil]); first | done | rfl) ?_
     with_reducible refine (spec_DoAct.calls k _ _ t214 t217 t218 t219 t220 t221 t224 _ ?side1 ?side2 A21.out).mono ?_
     (case side1 => repeat (first | exact (Kd.R_reads' HO216.out).2.2 | (with_reducible refine Kd.C_alloc ?_ _) | (with_reducible refine Kd.C_drewN ?_ _) | (with_reducible refine Kd.C_drew ?_)))
     (case side2 => exact (Kd.R_reads' HO216.out).2.1)
     rintro e w37 ⟨v222, rfl, ho0, hb⟩
     refine ⟨_, rfl, ?_⟩
     have n0_ := AM (Kd.R_elder' (by exact HO216.out) (Kd.R_base ho0) hb)
     have n1_ := AM (Kd.R_lower (Kd.R_new' ho0 (Kd.R_lt (by exact HO216.out))) (below_size (hS)))
     have n2_ := AM (blk_below (g := gb210) (o := .cells #[.slice A0_0 l0_0.length c0_0] 24 (0, 0)) (bk BK210) hb)
     have n3_ := AM (blk_below (g := gb211) (o := .cells #[.int .i64 a1_0, .string a1_1, .string a1_2, .string a1_3] 37 (0, 0)) (bk BK211) hb)
     have n4_ := AM (below_step (hS) hb)
     clear HO216
     clear BK210
     clear BK211
     clear HB
     have HO216 := n0_
     have HO223 := n1_
     have BK210 := n2_
     have BK211 := n3_
     have HB := n4_
     clear n0_ n1_ n2_ n3_ n4_
     (try clear hb)
     (try clear hb2)
     (try clear hk)
     (try clear hi)
     (try clear ho0)
     refine hK.out _ _ ⟨(blk_cell BK210.out 0).trans rfl, (blk_cell BK211.out 0).trans rfl, (blk_cell BK211.out 1).trans rfl, (blk_cell BK211.out 2).trans rfl, (blk_cell BK211.out 3).trans rfl⟩ (fun hHeld => ?_)
     clear hK K
     refine norm_ (a' := ?_) ?_ ?_
     rotate_left
     ·show Act.put _ (some 31) _ = _
      simp only [Act.put, qT, q0, qS, i64_w, i32_w]
      rfl
     refine pure_ (i := 5) (N := some 26) (v := ?_) (a' := ?_) #[true, true, true, true, true, true, false, false, false, false, false] rfl rfl (any_of HT_.out (by kernel_rfl)) (fun _ _ _ h => h) (Or.inl ⟨by rfl, ?_⟩) ?_ ?_
     rotate_left
     ·intro w'
      go_simp
      with_reducible rfl
     rotate_left
     ·simp only [Act.put, qT, q0, qS, i64_w, i32_w]
      rfl
     refine pure_ (i := 6) (N := some 32) (v := ?_) (a' := ?_) #[true, true, true, true, true, true, true, false, false, false, false] rfl rfl (any_of HT_.out (by kernel_rfl)) (fun _ _ _ h => h) (Or.inl ⟨by rfl, ?_⟩) ?_ ?_
     rotate_left
     ·intro w'
      go_simp
      with_reducible rfl
     rotate_left
     ·simp only [Act.put, qT, q0, qS, i64_w, i32_w]
      rfl
     refine pure_ (i := 7) (N := some 33) (v := ?_) (a' := ?_) #[true, true, true, true, true, true, true, true, false, false, false] rfl rfl (any_of HT_.out (by kernel_rfl)) (fun _ _ _ h => h) (Or.inl ⟨by rfl, ?_⟩) ?_ ?_
     rotate_left
     ·intro w'
      go_simp
      with_reducible rfl
     rotate_left
     ·simp only [Act.put, qT, q0, qS, i64_w, i32_w]
      rfl
     refine one_ (i := 8) (N := some 6) #[true, true, true, true, true, true, true, true, true, false, false] rfl rfl (one_of HT_.out (by kernel_rfl)) (by decide) (fun K hK => ?_)
     refine box_step ?hg (N := 6) ?hd (cs := #[.slice none 0 0]) (t := 30) ?hr ?_; (case hd => rfl); (case hg => rfl); (case hr => first | (go_simp; done) | (go_simp; rfl))
     intro gb225 hg w38 hbox hb
     have n0_ := AM (Kd.R_below (by exact HO216.out) hb)
     have n1_ := AM (Kd.R_below (by exact HO223.out) hb)
     have n2_ := AM (blk_below (g := gb210) (o := .cells #[.slice A0_0 l0_0.length c0_0] 24 (0, 0)) (bk BK210) hb)
     have n3_ := AM (blk_below (g := gb211) (o := .cells #[.int .i64 a1_0, .string a1_1, .string a1_2, .string a1_3] 37 (0, 0)) (bk BK211) hb)
     have n4_ := AM (below_step (hS) hb)
     have n5_ := AM (hbox)
     have n6_ := AM ((by rw [hg]; exact (below_size (hS)) : w.heap.size ≤ gb225))
     have n7_ := AM ((by rw [hg]; exact (below_size (hS)) : w.heap.size ≤ gb225))
     have n8_ := AM ((by rw [hg]; exact Nat.ne_of_lt (blk_lt (g := gb210) (o := .cells #[.slice A0_0 l0_0.length c0_0] 24 (0, 0)) (bk BK210)) : gb210 ≠ gb225))
     have n9_ := AM ((by rw [hg]; exact Nat.ne_of_gt (blk_lt (g := gb210) (o := .cells #[.slice A0_0 l0_0.length c0_0] 24 (0, 0)) (bk BK210)) : gb225 ≠ gb210))
     have n10_ := AM ((by rw [hg]; exact Nat.ne_of_lt (blk_lt (g := gb211) (o := .cells #[.int .i64 a1_0, .string a1_1, .string a1_2, .string a1_3] 37 (0, 0)) (bk BK211)) : gb211 ≠ gb225))
     have n11_ := AM ((by rw [hg]; exact Nat.ne_of_gt (blk_lt (g := gb211) (o := .cells #[.int .i64 a1_0, .string a1_1, .string a1_2, .string a1_3] 37 (0, 0)) (bk BK211)) : gb225 ≠ gb211))
     clear HO216
     clear HO223
     clear BK210
     clear BK211
     clear HB
     have HO216 := n0_
     have HO223 := n1_
     have BK210 := n2_
     have BK211 := n3_
     have HB := n4_
     have BK225 := n5_
     have GW225 := n6_
     have GE225 := n7_
     have NB210_225 := n8_
     have NB225_210 := n9_
     have NB211_225 := n10_
     have NB225_211 := n11_
     clear n0_ n1_ n2_ n3_ n4_ n5_ n6_ n7_ n8_ n9_ n10_ n11_
     clear hb hbox hg
     refine hK.out _ _ ⟨(blk_cell BK210.out 0).trans rfl, (blk_cell BK211.out 0).trans rfl, (blk_cell BK211.out 1).trans rfl, (blk_cell BK211.out 2).trans rfl, (blk_cell BK211.out 3).trans rfl⟩ (fun hHeld => ?_)
     clear hK K
     refine norm_ (a' := ?_) ?_ ?_
     rotate_left
     ·show Act.put _ (some 6) _ = _
      simp only [Act.put, qT, q0, qS, i64_w, i32_w]
      rfl
     exact norm_ (by simp only [putAll, Act.put, qT, q0, qS]) (hCont (.slice Ao36 t214.length co36, v222, gb225) _ ⟨hHeld, (by exact Kd.R_mono HO216.out (fun _ hk => hk.2)), (by exact Kd.R_mono HO223.out (fun _ hk => hk.2)), (bk BK210), (bk BK211), (bk BK225), GW225.out, GE225.out, NB210_225.out, NB225_210.out, NB211_225.out, NB225_211.out, (hS)⟩)
    skip
    refine box_step ?hg (N := 6) ?hd (cs := #[.slice none 0 0]) (t := 30) ?hr ?_; (case hd => rfl); (case hg => rfl); (case hr => first | (go_simp; done) | (go_simp; rfl))
    intro gb225 hg w36 hbox hb
    have n0_ := AM (Kd.R_below (by exact HO216.out) hb)
    have n1_ := AM (blk_below (g := gb210) (o := .cells #[.slice A0_0 l0_0.length c0_0] 24 (0, 0)) (bk BK210) hb)
    have n2_ := AM (blk_below (g := gb211) (o := .cells #[.int .i64 a1_0, .string a1_1, .string a1_2, .string a1_3] 37 (0, 0)) (bk BK211) hb)
    have n3_ := AM (below_step (hS) hb)
    have n4_ := AM (hbox)
    have n5_ := AM ((by rw [hg]; exact (below_size (hS)) : w.heap.size ≤ gb225))
    have n6_ := AM ((by rw [hg]; exact (below_size (hS)) : w.heap.size ≤ gb225))
    have n7_ := AM ((by rw [hg]; exact Nat.ne_of_lt (blk_lt (g := gb210) (o := .cells #[.slice A0_0 l0_0.length c0_0] 24 (0, 0)) (bk BK210)) : gb210 ≠ gb225))
    have n8_ := AM ((by rw [hg]; exact Nat.ne_of_gt (blk_lt (g := gb210) (o := .cells #[.slice A0_0 l0_0.length c0_0] 24 (0, 0)) (bk BK210)) : gb225 ≠ gb210))
    have n9_ := AM ((by rw [hg]; exact Nat.ne_of_lt (blk_lt (g := gb211) (o := .cells #[.int .i64 a1_0, .string a1_1, .string a1_2, .string a1_3] 37 (0, 0)) (bk BK211)) : gb211 ≠ gb225))
    have n10_ := AM ((by rw [hg]; exact Nat.ne_of_gt (blk_lt (g := gb211) (o := .cells #[.int .i64 a1_0, .string a1_1, .string a1_2, .string a1_3] 37 (0, 0)) (bk BK211)) : gb225 ≠ gb211))
    clear HO216
    clear BK210
    clear BK211
    clear HB
    have HO216 := n0_
    have BK210 := n1_
    have BK211 := n2_
    have HB := n3_
    have BK225 := n4_
    have GW225 := n5_
    have GE225 := n6_
    have NB210_225 := n7_
    have NB225_210 := n8_
    have NB211_225 := n9_
    have NB225_211 := n10_
    clear n0_ n1_ n2_ n3_ n4_ n5_ n6_ n7_ n8_ n9_ n10_
    clear hb hbox hg
    obtain ⟨Ao37, co37, eo37⟩ := Kd.R_slice HO216.out
    (first | subst eo37 | (injection eo37 with f1_ f2_ f3_; have f4_ := f1_.symm; have f5_ := f3_.symm; clear f1_ f2_ f3_; subst f4_; subst f5_))
    refine hK.out _ _ ⟨(blk_cell BK210.out 0).trans rfl, (blk_cell BK211.out 0).trans rfl, (blk_cell BK211.out 1).trans rfl, (blk_cell BK211.out 2).trans rfl, (blk_cell BK211.out 3).trans rfl⟩ (fun hHeld => ?_)
    clear hK K
    refine norm_ (a' := ?_) ?_ ?_
    rotate_left
    ·show Act.put _ (some 6) _ = _
     simp only [Act.put, qT, q0, qS, i64_w, i32_w]
     rfl
    refine one_ (i := 4) (N := some 31) #[true, true, true, true, true, false, false, false, true, false, false] rfl rfl (one_of HT_.out (by kernel_rfl)) (by decide) (fun K hK => ?_)
    refine goes_ Try.func17 (by kernel_rfl) rfl #[.agg #[.slice Ao37 t214.length co37], .agg #[.int .i64 t217, .string t218, .string t219, .string t220]] (by rfl) rfl rfl (by (try simp only [List.map_toArray, List.map_cons, List.map_nil]); first | done | rfl) ?_
    with_reducible refine (spec_DoAct.calls k _ _ t214 t217 t218 t219 t220 t221 t224 _ ?side1 ?side2 A21.out).mono ?_
    (case side1 => repeat (first | exact (Kd.R_reads' HO216.out).2.2 | (with_reducible refine Kd.C_alloc ?_ _) | (with_reducible refine Kd.C_drewN ?_ _) | (with_reducible refine Kd.C_drew ?_)))
    (case side2 => exact (Kd.R_reads' HO216.out).2.1)
    rintro e w38 ⟨v222, rfl, ho0, hb⟩
    refine ⟨_, rfl, ?_⟩
    have n0_ := AM (Kd.R_elder' (by exact HO216.out) (Kd.R_base ho0) hb)
    have n1_ := AM (Kd.R_lower (Kd.R_new' ho0 (Kd.R_lt (by exact HO216.out))) (below_size (hS)))
    have n2_ := AM (blk_below (g := gb210) (o := .cells #[.slice A0_0 l0_0.length c0_0] 24 (0, 0)) (bk BK210) hb)
    have n3_ := AM (blk_below (g := gb211) (o := .cells #[.int .i64 a1_0, .string a1_1, .string a1_2, .string a1_3] 37 (0, 0)) (bk BK211) hb)
    have n4_ := AM (blk_below (g := gb225) (o := .cells #[.slice none 0 0] 30 (0, 0)) (bk BK225) hb)
    have n5_ := AM (below_step (hS) hb)
    clear HO216
    clear BK210
    clear BK211
    clear BK225
    clear HB
    have HO216 := n0_
    have HO223 := n1_
    have BK210 := n2_
    have BK211 := n3_
    have BK225 := n4_
    have HB := n5_
    clear n0_ n1_ n2_ n3_ n4_ n5_
    (try clear hb)
    (try clear hb2)
    (try clear hk)
    (try clear hi)
    (try clear ho0)
    refine hK.out _ _ ⟨(blk_cell BK210.out 0).trans rfl, (blk_cell BK211.out 0).trans rfl, (blk_cell BK211.out 1).trans rfl, (blk_cell BK211.out 2).trans rfl, (blk_cell BK211.out 3).trans rfl⟩ (fun hHeld => ?_)
    clear hK K
    refine norm_ (a' := ?_) ?_ ?_
    rotate_left
    ·show Act.put _ (some 31) _ = _
     simp only [Act.put, qT, q0, qS, i64_w, i32_w]
     rfl
    refine pure_ (i := 5) (N := some 26) (v := ?_) (a' := ?_) #[true, true, true, true, true, true, false, false, true, false, false] rfl rfl (any_of HT_.out (by kernel_rfl)) (fun _ _ _ h => h) (Or.inl ⟨by rfl, ?_⟩) ?_ ?_
    rotate_left
    ·intro w'
     go_simp
     with_reducible rfl
    rotate_left
    ·simp only [Act.put, qT, q0, qS, i64_w, i32_w]
     rfl
    refine pure_ (i := 6) (N := some 32) (v := ?_) (a' := ?_) #[true, true, true, true, true, true, true, false, true, false, false] rfl rfl (any_of HT_.out (by kernel_rfl)) (fun _ _ _ h => h) (Or.inl ⟨by rfl, ?_⟩) ?_ ?_
    rotate_left
    ·intro w'
     go_simp
     with_reducible rfl
    rotate_left
    ·simp only [Act.put, qT, q0, qS, i64_w, i32_w]
     rfl
    refine pure_ (i := 7) (N := some 33) (v := ?_) (a' := ?_) #[true, true, true, true, true, true, true, true, true, false, false] rfl rfl (any_of HT_.out (by kernel_rfl)) (fun _ _ _ h => h) (Or.inl ⟨by rfl, ?_⟩) ?_ ?_
    rotate_left
    ·intro w'
     go_simp
     with_reducible rfl
    rotate_left
    ·simp only [Act.put, qT, q0, qS, i64_w, i32_w]
     rfl
    exact norm_ (by simp only [putAll, Act.put, qT, q0, qS]) (hCont (.slice Ao37 t214.length co37, v222, gb225) _ ⟨hHeld, (by exact Kd.R_mono HO216.out (fun _ hk => hk.2)), (by exact Kd.R_mono HO223.out (fun _ hk => hk.2)), (bk BK210), (bk BK211), (bk BK225), GW225.out, GE225.out, NB210_225.out, NB225_210.out, NB211_225.out, NB225_211.out, (hS)⟩)
   skip
   refine box_step ?hg (N := 6) ?hd (cs := #[.slice none 0 0]) (t := 30) ?hr ?_; (case hd => rfl); (case hg => rfl); (case hr => first | (go_simp; done) | (go_simp; rfl))
   intro gb225 hg w35 hbox hb
   have n0_ := AM (Kd.R_below (by exact HO216.out) hb)
   have n1_ := AM (blk_below (g := gb210) (o := .cells #[.slice A0_0 l0_0.length c0_0] 24 (0, 0)) (bk BK210) hb)
   have n2_ := AM (blk_below (g := gb211) (o := .cells #[.int .i64 a1_0, .string a1_1, .string a1_2, .string a1_3] 37 (0, 0)) (bk BK211) hb)
   have n3_ := AM (below_step (hS) hb)
   have n4_ := AM (hbox)
   have n5_ := AM ((by rw [hg]; exact (below_size (hS)) : w.heap.size ≤ gb225))
   have n6_ := AM ((by rw [hg]; exact (below_size (hS)) : w.heap.size ≤ gb225))
   have n7_ := AM ((by rw [hg]; exact Nat.ne_of_lt (blk_lt (g := gb210) (o := .cells #[.slice A0_0 l0_0.length c0_0] 24 (0, 0)) (bk BK210)) : gb210 ≠ gb225))
   have n8_ := AM ((by rw [hg]; exact Nat.ne_of_gt (blk_lt (g := gb210) (o := .cells #[.slice A0_0 l0_0.length c0_0] 24 (0, 0)) (bk BK210)) : gb225 ≠ gb210))
   have n9_ := AM ((by rw [hg]; exact Nat.ne_of_lt (blk_lt (g := gb211) (o := .cells #[.int .i64 a1_0, .string a1_1, .string a1_2, .string a1_3] 37 (0, 0)) (bk BK211)) : gb211 ≠ gb225))
   have n10_ := AM ((by rw [hg]; exact Nat.ne_of_gt (blk_lt (g := gb211) (o := .cells #[.int .i64 a1_0, .string a1_1, .string a1_2, .string a1_3] 37 (0, 0)) (bk BK211)) : gb225 ≠ gb211))
   clear HO216
   clear BK210
   clear BK211
   clear HB
   have HO216 := n0_
   have BK210 := n1_
   have BK211 := n2_
   have HB := n3_
   have BK225 := n4_
   have GW225 := n5_
   have GE225 := n6_
   have NB210_225 := n7_
   have NB225_210 := n8_
   have NB211_225 := n9_
   have NB225_211 := n10_
   clear n0_ n1_ n2_ n3_ n4_ n5_ n6_ n7_ n8_ n9_ n10_
   clear hb hbox hg
   refine hK.out _ _ ⟨(blk_cell BK210.out 0).trans rfl, (blk_cell BK211.out 0).trans rfl, (blk_cell BK211.out 1).trans rfl, (blk_cell BK211.out 2).trans rfl, (blk_cell BK211.out 3).trans rfl⟩ (fun hHeld => ?_)
   clear hK K
   refine norm_ (a' := ?_) ?_ ?_
   rotate_left
   ·show Act.put _ (some 6) _ = _
    simp only [Act.put, qT, q0, qS, i64_w, i32_w]
    rfl
   refine one_ (i := 3) (N := some 30) #[true, true, true, true, false, false, false, false, true, false, false] rfl rfl (one_of HT_.out (by kernel_rfl)) (by decide) (fun K hK => ?_)
   refine goes_ Try.func18 (by kernel_rfl) rfl #[.agg #[.int .i64 a1_0, .string a1_1, .string a1_2, .string a1_3]] (by rfl) rfl rfl (by (try simp only [List.map_toArray, List.map_cons, List.map_nil]); first | done | rfl) ?_
   with_reducible refine (laws_toAct.calls a1_0 a1_1 a1_2 a1_3 t217 t218 t219 t220 _ A20.out).mono ?_
   rintro e w36 ⟨rfl, hb⟩
   refine ⟨_, rfl, ?_⟩
   have n0_ := AM (Kd.R_below (by exact HO216.out) hb)
   have n1_ := AM (blk_below (g := gb210) (o := .cells #[.slice A0_0 l0_0.length c0_0] 24 (0, 0)) (bk BK210) hb)
   have n2_ := AM (blk_below (g := gb211) (o := .cells #[.int .i64 a1_0, .string a1_1, .string a1_2, .string a1_3] 37 (0, 0)) (bk BK211) hb)
   have n3_ := AM (blk_below (g := gb225) (o := .cells #[.slice none 0 0] 30 (0, 0)) (bk BK225) hb)
   have n4_ := AM (below_step (hS) hb)
   clear HO216
   clear BK210
   clear BK211
   clear BK225
   clear HB
   have HO216 := n0_
   have BK210 := n1_
   have BK211 := n2_
   have BK225 := n3_
   have HB := n4_
   clear n0_ n1_ n2_ n3_ n4_
   (try clear hb)
   (try clear hb2)
   (try clear hk)
   (try clear hi)
   obtain ⟨Ao37, co37, eo37⟩ := Kd.R_slice HO216.out
   (first | subst eo37 | (injection eo37 with f1_ f2_ f3_; have f4_ := f1_.symm; have f5_ := f3_.symm; clear f1_ f2_ f3_; subst f4_; subst f5_))
   refine hK.out _ _ ⟨(blk_cell BK210.out 0).trans rfl, (blk_cell BK211.out 0).trans rfl, (blk_cell BK211.out 1).trans rfl, (blk_cell BK211.out 2).trans rfl, (blk_cell BK211.out 3).trans rfl⟩ (fun hHeld => ?_)
   clear hK K
   refine norm_ (a' := ?_) ?_ ?_
   rotate_left
   ·show Act.put _ (some 30) _ = _
    simp only [Act.put, qT, q0, qS, i64_w, i32_w]
    rfl
   refine one_ (i := 4) (N := some 31) #[true, true, true, true, true, false, false, false, true, false, false] rfl rfl (one_of HT_.out (by kernel_rfl)) (by decide) (fun K hK => ?_)
   refine goes_ Try.func17 (by kernel_rfl) rfl #[.agg #[.slice Ao37 t214.length co37], .agg #[.int .i64 t217, .string t218, .string t219, .string t220]] (by rfl) rfl rfl (by (try simp only [List.map_toArray, List.map_cons, List.map_nil]); first | done | rfl) ?_
   with_reducible refine (spec_DoAct.calls k _ _ t214 t217 t218 t219 t220 t221 t224 _ ?side1 ?side2 A21.out).mono ?_
   (case side1 => repeat (first | exact (Kd.R_reads' HO216.out).2.2 | (with_reducible refine Kd.C_alloc ?_ _) | (with_reducible refine Kd.C_drewN ?_ _) | (with_reducible refine Kd.C_drew ?_)))
   (case side2 => exact (Kd.R_reads' HO216.out).2.1)
   rintro e w38 ⟨v222, rfl, ho0, hb⟩
   refine ⟨_, rfl, ?_⟩
   have n0_ := AM (Kd.R_elder' (by exact HO216.out) (Kd.R_base ho0) hb)
   have n1_ := AM (Kd.R_lower (Kd.R_new' ho0 (Kd.R_lt (by exact HO216.out))) (below_size (hS)))
   have n2_ := AM (blk_below (g := gb210) (o := .cells #[.slice A0_0 l0_0.length c0_0] 24 (0, 0)) (bk BK210) hb)
   have n3_ := AM (blk_below (g := gb211) (o := .cells #[.int .i64 a1_0, .string a1_1, .string a1_2, .string a1_3] 37 (0, 0)) (bk BK211) hb)
   have n4_ := AM (blk_below (g := gb225) (o := .cells #[.slice none 0 0] 30 (0, 0)) (bk BK225) hb)
   have n5_ := AM (below_step (hS) hb)
   clear HO216
   clear BK210
   clear BK211
   clear BK225
   clear HB
   have HO216 := n0_
   have HO223 := n1_
   have BK210 := n2_
   have BK211 := n3_
   have BK225 := n4_
   have HB := n5_
   clear n0_ n1_ n2_ n3_ n4_ n5_
   (try clear hb)
   (try clear hb2)
   (try clear hk)
   (try clear hi)
   (try clear ho0)
   refine hK.out _ _ ⟨(blk_cell BK210.out 0).trans rfl, (blk_cell BK211.out 0).trans rfl, (blk_cell BK211.out 1).trans rfl, (blk_cell BK211.out 2).trans rfl, (blk_cell BK211.out 3).trans rfl⟩ (fun hHeld => ?_)
   clear hK K
   refine norm_ (a' := ?_) ?_ ?_
   rotate_left
   ·show Act.put _ (some 31) _ = _
    simp only [Act.put, qT, q0, qS, i64_w, i32_w]
    rfl
   refine pure_ (i := 5) (N := some 26) (v := ?_) (a' := ?_) #[true, true, true, true, true, true, false, false, true, false, false] rfl rfl (any_of HT_.out (by kernel_rfl)) (fun _ _ _ h => h) (Or.inl ⟨by rfl, ?_⟩) ?_ ?_
   rotate_left
   ·intro w'
    go_simp
    with_reducible rfl
   rotate_left
   ·simp only [Act.put, qT, q0, qS, i64_w, i32_w]
    rfl
   refine pure_ (i := 6) (N := some 32) (v := ?_) (a' := ?_) #[true, true, true, true, true, true, true, false, true, false, false] rfl rfl (any_of HT_.out (by kernel_rfl)) (fun _ _ _ h => h) (Or.inl ⟨by rfl, ?_⟩) ?_ ?_
   rotate_left
   ·intro w'
    go_simp
    with_reducible rfl
   rotate_left
   ·simp only [Act.put, qT, q0, qS, i64_w, i32_w]
    rfl
   refine pure_ (i := 7) (N := some 33) (v := ?_) (a' := ?_) #[true, true, true, true, true, true, true, true, true, false, false] rfl rfl (any_of HT_.out (by kernel_rfl)) (fun _ _ _ h => h) (Or.inl ⟨by rfl, ?_⟩) ?_ ?_
   rotate_left
   ·intro w'
    go_simp
    with_reducible rfl
   rotate_left
   ·simp only [Act.put, qT, q0, qS, i64_w, i32_w]
    rfl
   exact norm_ (by simp only [putAll, Act.put, qT, q0, qS]) (hCont (.slice Ao37 t214.length co37, v222, gb225) _ ⟨hHeld, (by exact Kd.R_mono HO216.out (fun _ hk => hk.2)), (by exact Kd.R_mono HO223.out (fun _ hk => hk.2)), (bk BK210), (bk BK211), (bk BK225), GW225.out, GE225.out, NB210_225.out, NB225_210.out, NB211_225.out, NB225_211.out, (hS)⟩)
  skip
  refine box_step ?hg (N := 6) ?hd (cs := #[.slice none 0 0]) (t := 30) ?hr ?_; (case hd => rfl); (case hg => rfl); (case hr => first | (go_simp; done) | (go_simp; rfl))
  intro gb225 hg w34 hbox hb
  have n0_ := AM (blk_below (g := gb210) (o := .cells #[.slice A0_0 l0_0.length c0_0] 24 (0, 0)) (bk BK210) hb)
  have n1_ := AM (blk_below (g := gb211) (o := .cells #[.int .i64 a1_0, .string a1_1, .string a1_2, .string a1_3] 37 (0, 0)) (bk BK211) hb)
  have n2_ := AM (below_step (hS) hb)
  have n3_ := AM (hbox)
  have n4_ := AM ((by rw [hg]; exact (below_size (hS)) : w.heap.size ≤ gb225))
  have n5_ := AM ((by rw [hg]; exact (below_size (hS)) : w.heap.size ≤ gb225))
  have n6_ := AM ((by rw [hg]; exact Nat.ne_of_lt (blk_lt (g := gb210) (o := .cells #[.slice A0_0 l0_0.length c0_0] 24 (0, 0)) (bk BK210)) : gb210 ≠ gb225))
  have n7_ := AM ((by rw [hg]; exact Nat.ne_of_gt (blk_lt (g := gb210) (o := .cells #[.slice A0_0 l0_0.length c0_0] 24 (0, 0)) (bk BK210)) : gb225 ≠ gb210))
  have n8_ := AM ((by rw [hg]; exact Nat.ne_of_lt (blk_lt (g := gb211) (o := .cells #[.int .i64 a1_0, .string a1_1, .string a1_2, .string a1_3] 37 (0, 0)) (bk BK211)) : gb211 ≠ gb225))
  have n9_ := AM ((by rw [hg]; exact Nat.ne_of_gt (blk_lt (g := gb211) (o := .cells #[.int .i64 a1_0, .string a1_1, .string a1_2, .string a1_3] 37 (0, 0)) (bk BK211)) : gb225 ≠ gb211))
  clear BK210
  clear BK211
  clear HB
  have BK210 := n0_
  have BK211 := n1_
  have HB := n2_
  have BK225 := n3_
  have GW225 := n4_
  have GE225 := n5_
  have NB210_225 := n6_
  have NB225_210 := n7_
  have NB211_225 := n8_
  have NB225_211 := n9_
  clear n0_ n1_ n2_ n3_ n4_ n5_ n6_ n7_ n8_ n9_
  clear hb hbox hg
  refine hK.out _ _ ⟨(blk_cell BK210.out 0).trans rfl, (blk_cell BK211.out 0).trans rfl, (blk_cell BK211.out 1).trans rfl, (blk_cell BK211.out 2).trans rfl, (blk_cell BK211.out 3).trans rfl⟩ (fun hHeld => ?_)
  clear hK K
  refine norm_ (a' := ?_) ?_ ?_
  rotate_left
  ·show Act.put _ (some 6) _ = _
   simp only [Act.put, qT, q0, qS, i64_w, i32_w]
   rfl
  refine one_ (i := 1) (N := some 28) #[true, true, true, false, false, false, false, false, true, false, false] rfl rfl (one_of HT_.out (by kernel_rfl)) (by decide) (fun K hK => ?_)
  refine goes_ Try.func11 (by kernel_rfl) rfl #[.agg #[.slice A0_0 l0_0.length c0_0]] (by rfl) rfl rfl (by (try simp only [List.map_toArray, List.map_cons, List.map_nil]); first | done | rfl) ?_
  with_reducible refine (laws_toDisk.calls k _ _ l0_0 t214 _ ?side1 ?side2 A19.out).mono ?_
  (case side1 => repeat (first | exact (Kd.C_below HR0_0.out HB.out) | (with_reducible refine Kd.C_alloc ?_ _) | (with_reducible refine Kd.C_drewN ?_ _) | (with_reducible refine Kd.C_drew ?_)))
  (case side2 => exact HC0_0.out)
  rintro e w35 ⟨v215, rfl, ho0, hb⟩
  refine ⟨_, rfl, ?_⟩
  have n0_ := AM (Kd.R_lower ho0 (below_size (hS)))
  have n1_ := AM (blk_below (g := gb210) (o := .cells #[.slice A0_0 l0_0.length c0_0] 24 (0, 0)) (bk BK210) hb)
  have n2_ := AM (blk_below (g := gb211) (o := .cells #[.int .i64 a1_0, .string a1_1, .string a1_2, .string a1_3] 37 (0, 0)) (bk BK211) hb)
  have n3_ := AM (blk_below (g := gb225) (o := .cells #[.slice none 0 0] 30 (0, 0)) (bk BK225) hb)
  have n4_ := AM (below_step (hS) hb)
  clear BK210
  clear BK211
  clear BK225
  clear HB
  have HO216 := n0_
  have BK210 := n1_
  have BK211 := n2_
  have BK225 := n3_
  have HB := n4_
  clear n0_ n1_ n2_ n3_ n4_
  (try clear hb)
  (try clear hb2)
  (try clear hk)
  (try clear hi)
  (try clear ho0)
  refine hK.out _ _ ⟨(blk_cell BK210.out 0).trans rfl, (blk_cell BK211.out 0).trans rfl, (blk_cell BK211.out 1).trans rfl, (blk_cell BK211.out 2).trans rfl, (blk_cell BK211.out 3).trans rfl⟩ (fun hHeld => ?_)
  clear hK K
  refine norm_ (a' := ?_) ?_ ?_
  rotate_left
  ·show Act.put _ (some 28) _ = _
   simp only [Act.put, qT, q0, qS, i64_w, i32_w]
   rfl
  refine one_ (i := 3) (N := some 30) #[true, true, true, true, false, false, false, false, true, false, false] rfl rfl (one_of HT_.out (by kernel_rfl)) (by decide) (fun K hK => ?_)
  refine goes_ Try.func18 (by kernel_rfl) rfl #[.agg #[.int .i64 a1_0, .string a1_1, .string a1_2, .string a1_3]] (by rfl) rfl rfl (by (try simp only [List.map_toArray, List.map_cons, List.map_nil]); first | done | rfl) ?_
  with_reducible refine (laws_toAct.calls a1_0 a1_1 a1_2 a1_3 t217 t218 t219 t220 _ A20.out).mono ?_
  rintro e w36 ⟨rfl, hb⟩
  refine ⟨_, rfl, ?_⟩
  have n0_ := AM (Kd.R_below (by exact HO216.out) hb)
  have n1_ := AM (blk_below (g := gb210) (o := .cells #[.slice A0_0 l0_0.length c0_0] 24 (0, 0)) (bk BK210) hb)
  have n2_ := AM (blk_below (g := gb211) (o := .cells #[.int .i64 a1_0, .string a1_1, .string a1_2, .string a1_3] 37 (0, 0)) (bk BK211) hb)
  have n3_ := AM (blk_below (g := gb225) (o := .cells #[.slice none 0 0] 30 (0, 0)) (bk BK225) hb)
  have n4_ := AM (below_step (hS) hb)
  clear HO216
  clear BK210
  clear BK211
  clear BK225
  clear HB
  have HO216 := n0_
  have BK210 := n1_
  have BK211 := n2_
  have BK225 := n3_
  have HB := n4_
  clear n0_ n1_ n2_ n3_ n4_
  (try clear hb)
  (try clear hb2)
  (try clear hk)
  (try clear hi)
  obtain ⟨Ao37, co37, eo37⟩ := Kd.R_slice HO216.out
  (first | subst eo37 | (injection eo37 with f1_ f2_ f3_; have f4_ := f1_.symm; have f5_ := f3_.symm; clear f1_ f2_ f3_; subst f4_; subst f5_))
  refine hK.out _ _ ⟨(blk_cell BK210.out 0).trans rfl, (blk_cell BK211.out 0).trans rfl, (blk_cell BK211.out 1).trans rfl, (blk_cell BK211.out 2).trans rfl, (blk_cell BK211.out 3).trans rfl⟩ (fun hHeld => ?_)
  clear hK K
  refine norm_ (a' := ?_) ?_ ?_
  rotate_left
  ·show Act.put _ (some 30) _ = _
   simp only [Act.put, qT, q0, qS, i64_w, i32_w]
   rfl
  refine one_ (i := 4) (N := some 31) #[true, true, true, true, true, false, false, false, true, false, false] rfl rfl (one_of HT_.out (by kernel_rfl)) (by decide) (fun K hK => ?_)
  refine goes_ Try.func17 (by kernel_rfl) rfl #[.agg #[.slice Ao37 t214.length co37], .agg #[.int .i64 t217, .string t218, .string t219, .string t220]] (by rfl) rfl rfl (by (try simp only [List.map_toArray, List.map_cons, List.map_nil]); first | done | rfl) ?_
  with_reducible refine (spec_DoAct.calls k _ _ t214 t217 t218 t219 t220 t221 t224 _ ?side1 ?side2 A21.out).mono ?_
  (case side1 => repeat (first | exact (Kd.R_reads' HO216.out).2.2 | (with_reducible refine Kd.C_alloc ?_ _) | (with_reducible refine Kd.C_drewN ?_ _) | (with_reducible refine Kd.C_drew ?_)))
  (case side2 => exact (Kd.R_reads' HO216.out).2.1)
  rintro e w38 ⟨v222, rfl, ho0, hb⟩
  refine ⟨_, rfl, ?_⟩
  have n0_ := AM (Kd.R_elder' (by exact HO216.out) (Kd.R_base ho0) hb)
  have n1_ := AM (Kd.R_lower (Kd.R_new' ho0 (Kd.R_lt (by exact HO216.out))) (below_size (hS)))
  have n2_ := AM (blk_below (g := gb210) (o := .cells #[.slice A0_0 l0_0.length c0_0] 24 (0, 0)) (bk BK210) hb)
  have n3_ := AM (blk_below (g := gb211) (o := .cells #[.int .i64 a1_0, .string a1_1, .string a1_2, .string a1_3] 37 (0, 0)) (bk BK211) hb)
  have n4_ := AM (blk_below (g := gb225) (o := .cells #[.slice none 0 0] 30 (0, 0)) (bk BK225) hb)
  have n5_ := AM (below_step (hS) hb)
  clear HO216
  clear BK210
  clear BK211
  clear BK225
  clear HB
  have HO216 := n0_
  have HO223 := n1_
  have BK210 := n2_
  have BK211 := n3_
  have BK225 := n4_
  have HB := n5_
  clear n0_ n1_ n2_ n3_ n4_ n5_
  (try clear hb)
  (try clear hb2)
  (try clear hk)
  (try clear hi)
  (try clear ho0)
  refine hK.out _ _ ⟨(blk_cell BK210.out 0).trans rfl, (blk_cell BK211.out 0).trans rfl, (blk_cell BK211.out 1).trans rfl, (blk_cell BK211.out 2).trans rfl, (blk_cell BK211.out 3).trans rfl⟩ (fun hHeld => ?_)
  clear hK K
  refine norm_ (a' := ?_) ?_ ?_
  rotate_left
  ·show Act.put _ (some 31) _ = _
   simp only [Act.put, qT, q0, qS, i64_w, i32_w]
   rfl
  refine pure_ (i := 5) (N := some 26) (v := ?_) (a' := ?_) #[true, true, true, true, true, true, false, false, true, false, false] rfl rfl (any_of HT_.out (by kernel_rfl)) (fun _ _ _ h => h) (Or.inl ⟨by rfl, ?_⟩) ?_ ?_
  rotate_left
  ·intro w'
   go_simp
   with_reducible rfl
  rotate_left
  ·simp only [Act.put, qT, q0, qS, i64_w, i32_w]
   rfl
  refine pure_ (i := 6) (N := some 32) (v := ?_) (a' := ?_) #[true, true, true, true, true, true, true, false, true, false, false] rfl rfl (any_of HT_.out (by kernel_rfl)) (fun _ _ _ h => h) (Or.inl ⟨by rfl, ?_⟩) ?_ ?_
  rotate_left
  ·intro w'
   go_simp
   with_reducible rfl
  rotate_left
  ·simp only [Act.put, qT, q0, qS, i64_w, i32_w]
   rfl
  refine pure_ (i := 7) (N := some 33) (v := ?_) (a' := ?_) #[true, true, true, true, true, true, true, true, true, false, false] rfl rfl (any_of HT_.out (by kernel_rfl)) (fun _ _ _ h => h) (Or.inl ⟨by rfl, ?_⟩) ?_ ?_
  rotate_left
  ·intro w'
   go_simp
   with_reducible rfl
  rotate_left
  ·simp only [Act.put, qT, q0, qS, i64_w, i32_w]
   rfl
  exact norm_ (by simp only [putAll, Act.put, qT, q0, qS]) (hCont (.slice Ao37 t214.length co37, v222, gb225) _ ⟨hHeld, (by exact Kd.R_mono HO216.out (fun _ hk => hk.2)), (by exact Kd.R_mono HO223.out (fun _ hk => hk.2)), (bk BK210), (bk BK211), (bk BK225), GW225.out, GE225.out, NB210_225.out, NB225_210.out, NB211_225.out, NB225_211.out, (hS)⟩)
 rintro ⟨v215, v222, gb225⟩ w39 ⟨hS_, h0_, h1_, h2_, h3_, h4_, h5_, h6_, h7_, h8_, h9_, h10_, h11_⟩
 have n0_ : Aside0 (Kd.R k67 67 w39 w.heap.size (fun k_ => some k_ ≠ (v222 : Value).ownBlock) v215 t214) := ⟨h0_⟩
 have n1_ : Aside0 (Kd.R k67 67 w39 w.heap.size (fun k_ => some k_ ≠ (v215 : Value).ownBlock) v222 t221) := ⟨h1_⟩
 have n2_ : Aside0 (w39.heap[gb210]? = some (.cells #[.slice A0_0 l0_0.length c0_0] 24 (0, 0))) := ⟨h2_⟩
 have n3_ : Aside0 (w39.heap[gb211]? = some (.cells #[.int .i64 a1_0, .string a1_1, .string a1_2, .string a1_3] 37 (0, 0))) := ⟨h3_⟩
 have n4_ : Aside0 (w39.heap[gb225]? = some (.cells #[.slice none 0 0] 30 (0, 0))) := ⟨h4_⟩
 have n5_ : Aside0 (w.heap.size ≤ gb225) := ⟨h5_⟩
 have n6_ : Aside0 (w.heap.size ≤ gb225) := ⟨h6_⟩
 have n7_ : Aside0 (gb210 ≠ gb225) := ⟨h7_⟩
 have n8_ : Aside0 (gb225 ≠ gb210) := ⟨h8_⟩
 have n9_ : Aside0 (gb211 ≠ gb225) := ⟨h9_⟩
 have n10_ : Aside0 (gb225 ≠ gb211) := ⟨h10_⟩
 have n11_ : Aside0 (Below w.heap.size w w39) := ⟨h11_⟩
 clear BK210
 clear BK211
 clear HB
 clear h0_ h1_ h2_ h3_ h4_ h5_ h6_ h7_ h8_ h9_ h10_ h11_
 have HO216 := n0_
 have HO223 := n1_
 have BK210 := n2_
 have BK211 := n3_
 have BK225 := n4_
 have GW225 := n5_
 have GE225 := n6_
 have NB210_225 := n7_
 have NB225_210 := n8_
 have NB211_225 := n9_
 have NB225_211 := n10_
 have HB := n11_
 clear n0_ n1_ n2_ n3_ n4_ n5_ n6_ n7_ n8_ n9_ n10_ n11_
 have hHeld : w39.cell? ⟨gb210, 0, none⟩ = some (.slice A0_0 l0_0.length c0_0) ∧ w39.cell? ⟨gb211, 0, none⟩ = some (.int .i64 a1_0) ∧ w39.cell? ⟨gb211, 1, none⟩ = some (.string a1_1) ∧ w39.cell? ⟨gb211, 2, none⟩ = some (.string a1_2) ∧ w39.cell? ⟨gb211, 3, none⟩ = some (.string a1_3) := hS_
 obtain ⟨Ao40, co40, eo40⟩ := Kd.R_slice HO223.out
 (first | subst eo40 | (injection eo40 with f1_ f2_ f3_; have f4_ := f1_.symm; have f5_ := f3_.symm; clear f1_ f2_ f3_; subst f4_; subst f5_))
 refine norm_ (a' := ?_) ?_ ?_
 rotate_left
 ·simp only [putAll, Act.put, qT, q0, qS]
  rfl
 refine one_ (i := 9) (N := none) #[true, true, true, true, true, true, true, true, true, true, false] rfl rfl (one_of HT_.out (by kernel_rfl)) (by decide) (fun K hK => ?_)
 have hs41 : w39.cell? ⟨gb225, 0, none⟩ = some (.slice none 0 0) := (blk_cell BK225.out 0).trans rfl
 have hfs41 := blk_frozen BK225.out 0
 have hns41_0 := NB210_225.out
 have hns41_1 := NB211_225.out
 have hms41_0 := NB225_210.out
 have hms41_1 := NB225_211.out
 refine skip_ (w1 := ?_) (by rfl) rfl ?_ ?_
 rotate_left
 ·go_simp
  rfl
 refine hK.out _ _ ⟨((cell_far (p := ⟨gb225, _, none⟩) NB210_225.out _).trans (hHeld.1)), ((cell_far (p := ⟨gb225, _, none⟩) NB211_225.out _).trans (hHeld.2.1)), ((cell_far (p := ⟨gb225, _, none⟩) NB211_225.out _).trans (hHeld.2.2.1)), ((cell_far (p := ⟨gb225, _, none⟩) NB211_225.out _).trans (hHeld.2.2.2.1)), ((cell_far (p := ⟨gb225, _, none⟩) NB211_225.out _).trans (hHeld.2.2.2.2))⟩ (fun hHeld => ?_)
 clear hK K
 refine pure_ (i := 10) (N := some 7) (v := ?_) (a' := ?_) #[true, true, true, true, true, true, true, true, true, true, true] rfl rfl (any_of HT_.out (by kernel_rfl)) (fun _ _ _ h => h) (Or.inl ⟨by rfl, ?_⟩) ?_ ?_
 rotate_left
 ·intro w'
  go_simp
  with_reducible rfl
 rotate_left
 ·simp only [Act.put, qT, q0, qS, i64_w, i32_w]
  rfl
 refine done_ (done_of HT_.out (by kernel_rfl)) ?_
 have hnb42 := NB210_225.out
 have hnc42 := NB225_210.out
 have hcz43_0 : w39.cell? ⟨gb210, 0, none⟩ = some (.slice A0_0 l0_0.length c0_0) := (blk_cell BK210.out 0).trans rfl
 have hfz43_0 := blk_frozen BK210.out 0
 try go_wp2_with (first | ((with_reducible refine gate_callee (f := 11) rfl ?_); refine goesL_ (some 35) rfl rfl Try.func11 (by kernel_rfl) rfl #[.agg #[.slice A0_0 l0_0.length c0_0]] rfl (by (try simp only [List.map_toArray, List.map_cons, List.map_nil]); first | done | rfl) ?_; (with_reducible refine (laws_toDisk.calls k _ _ l0_0 t226 _ ?side1 ?side2 A22.out).mono ?_); (case side1 => exact Kd.C_below HR0_0.out (hS)); (case side2 => exact HC0_0.out); rintro e w44 ⟨v227, rfl, ho0, hb⟩; refine ⟨_, rfl, ?_⟩; have n0_ := AM (Kd.R_elder' (by exact (Kd.R_mono (Kd.R_far (p := ⟨gb225, 0, none⟩) (Kd.R_types HO216.out BK225.out (by decide)) (fun _ hk => hk.2) (.slice Ao40 t221.length co40)) (fun _ h_ => h_.1))) (Kd.R_base ho0) hb); have n1_ := AM (Kd.R_elder' (by exact (Kd.R_mono (Kd.R_far (p := ⟨gb225, 0, none⟩) (Kd.R_types HO223.out BK225.out (by decide)) (fun _ hk => hk.2) (.slice Ao40 t221.length co40)) (fun _ h_ => h_.1))) (Kd.R_base ho0) hb); have n2_ := AM (Kd.R_lower (Kd.R_new' (Kd.R_new' ho0 (Kd.R_lt (by exact (Kd.R_mono (Kd.R_far (p := ⟨gb225, 0, none⟩) (Kd.R_types HO216.out BK225.out (by decide)) (fun _ hk => hk.2) (.slice Ao40 t221.length co40)) (fun _ h_ => h_.1))))) (Kd.R_lt (by exact (Kd.R_mono (Kd.R_far (p := ⟨gb225, 0, none⟩) (Kd.R_types HO223.out BK225.out (by decide)) (fun _ hk => hk.2) (.slice Ao40 t221.length co40)) (fun _ h_ => h_.1))))) (below_size (hS))); have n3_ := AM (blk_below (g := gb210) (o := .cells #[.slice A0_0 l0_0.length c0_0] 24 (0, 0)) (by (with_reducible repeat (first | refine blk_drewN ?_ _ | refine blk_drew ?_ | refine blk_alloc ?_ _)); refine blk_far ?_ NB210_225.out _; (with_reducible repeat (first | refine blk_drewN ?_ _ | refine blk_drew ?_ | refine blk_alloc ?_ _)); exact BK210.out) hb); have n4_ := AM (blk_below (g := gb211) (o := .cells #[.int .i64 a1_0, .string a1_1, .string a1_2, .string a1_3] 37 (0, 0)) (by (with_reducible repeat (first | refine blk_drewN ?_ _ | refine blk_drew ?_ | refine blk_alloc ?_ _)); refine blk_far ?_ NB211_225.out _; (with_reducible repeat (first | refine blk_drewN ?_ _ | refine blk_drew ?_ | refine blk_alloc ?_ _)); exact BK211.out) hb); have n5_ := AM (blk_below (g := gb225) (o := .cells #[.slice Ao40 t221.length co40] 30 (0, 0)) (by (with_reducible repeat (first | refine blk_drewN ?_ _ | refine blk_drew ?_ | refine blk_alloc ?_ _)); refine blk_put (cs := #[.slice none 0 0]) ?_ 0 _ rfl; (with_reducible repeat (first | refine blk_drewN ?_ _ | refine blk_drew ?_ | refine blk_alloc ?_ _)); exact BK225.out) hb); have n6_ := AM (below_step (hS) hb); clear HO216; clear HO223; clear BK210; clear BK211; clear BK225; clear HB; have HO216 := n0_; have HO223 := n1_; have HO228 := n2_; have BK210 := n3_; have BK211 := n4_; have BK225 := n5_; have HB := n6_; clear n0_ n1_ n2_ n3_ n4_ n5_ n6_; (try clear hb); (try clear hk); (try clear ho0)) | ((with_reducible refine gate_dst (N := 8) rfl ?_); refine box_event ?hg (N := 8) ?hd (cs := #[.slice none 0 0]) (t := 30) ?hr ?_; (case hd => rfl); (case hg => rfl); (case hr => first | (go_simp; done) | (go_simp; rfl)); intro gb229 hg w45 hbox hb; have n0_ := AM (Kd.R_below (by exact HO216.out) hb); have n1_ := AM (Kd.R_below (by exact HO223.out) hb); have n2_ := AM (Kd.R_below (by exact HO228.out) hb); have n3_ := AM (blk_below (g := gb210) (o := .cells #[.slice A0_0 l0_0.length c0_0] 24 (0, 0)) (bk BK210) hb); have n4_ := AM (blk_below (g := gb211) (o := .cells #[.int .i64 a1_0, .string a1_1, .string a1_2, .string a1_3] 37 (0, 0)) (bk BK211) hb); have n5_ := AM (blk_below (g := gb225) (o := .cells #[.slice Ao40 t221.length co40] 30 (0, 0)) (bk BK225) hb); have n6_ := AM (below_step (hS) hb); have n7_ := AM (hbox); have n8_ := AM ((by rw [hg]; exact (below_size (hS)) : w.heap.size ≤ gb229)); have n9_ := AM ((by rw [hg]; exact (below_size (hS)) : w.heap.size ≤ gb229)); have n10_ := AM ((by rw [hg]; exact Nat.ne_of_lt (blk_lt (g := gb210) (o := .cells #[.slice A0_0 l0_0.length c0_0] 24 (0, 0)) (bk BK210)) : gb210 ≠ gb229)); have n11_ := AM ((by rw [hg]; exact Nat.ne_of_gt (blk_lt (g := gb210) (o := .cells #[.slice A0_0 l0_0.length c0_0] 24 (0, 0)) (bk BK210)) : gb229 ≠ gb210)); have n12_ := AM ((by rw [hg]; exact Nat.ne_of_lt (blk_lt (g := gb211) (o := .cells #[.int .i64 a1_0, .string a1_1, .string a1_2, .string a1_3] 37 (0, 0)) (bk BK211)) : gb211 ≠ gb229)); have n13_ := AM ((by rw [hg]; exact Nat.ne_of_gt (blk_lt (g := gb211) (o := .cells #[.int .i64 a1_0, .string a1_1, .string a1_2, .string a1_3] 37 (0, 0)) (bk BK211)) : gb229 ≠ gb211)); have n14_ := AM ((by rw [hg]; exact Nat.ne_of_lt (blk_lt (g := gb225) (o := .cells #[.slice Ao40 t221.length co40] 30 (0, 0)) (bk BK225)) : gb225 ≠ gb229)); have n15_ := AM ((by rw [hg]; exact Nat.ne_of_gt (blk_lt (g := gb225) (o := .cells #[.slice Ao40 t221.length co40] 30 (0, 0)) (bk BK225)) : gb229 ≠ gb225)); clear HO216; clear HO223; clear HO228; clear BK210; clear BK211; clear BK225; clear HB; have HO216 := n0_; have HO223 := n1_; have HO228 := n2_; have BK210 := n3_; have BK211 := n4_; have BK225 := n5_; have HB := n6_; have BK229 := n7_; have GW229 := n8_; have GE229 := n9_; have NB210_229 := n10_; have NB229_210 := n11_; have NB211_229 := n12_; have NB229_211 := n13_; have NB225_229 := n14_; have NB229_225 := n15_; clear n0_ n1_ n2_ n3_ n4_ n5_ n6_ n7_ n8_ n9_ n10_ n11_ n12_ n13_ n14_ n15_; clear hb hbox hg; obtain ⟨Ao46, co46, eo46⟩ := Kd.R_slice HO228.out; subst eo46; have hnb47 := NB229_210.out; have hnc47 := NB210_229.out; have hnb48 := NB229_211.out; have hnc48 := NB211_229.out; have hnb49 := NB229_225.out; have hnc49 := NB225_229.out; have hcz50_0 : w45.cell? ⟨gb229, 0, none⟩ = some (.slice none 0 0) := (blk_cell BK229.out 0).trans rfl; have hfz50_0 := blk_frozen BK229.out 0))
 have n0_ : Aside0 (Kd.R k67 67 (w45.setCell ⟨gb229, 0, none⟩ (.slice Ao46 t226.length co46)) w.heap.size (fun k_ => some k_ ≠ (.slice Ao40 t221.length co40 : Value).ownBlock ∧ some k_ ≠ (.slice Ao46 t226.length co46 : Value).ownBlock) v215 t214) := ⟨by exact Kd.R_mono (Kd.R_far (p := ⟨gb229, 0, none⟩) (Kd.R_types HO216.out BK229.out (by decide)) (fun _ hk => hk.2) (.slice Ao46 t226.length co46)) (fun _ hk => ⟨hk.1.1, hk.1.2⟩)⟩
 have n1_ : Aside0 (Kd.R k67 67 (w45.setCell ⟨gb229, 0, none⟩ (.slice Ao46 t226.length co46)) w.heap.size (fun k_ => some k_ ≠ (v215 : Value).ownBlock ∧ some k_ ≠ (.slice Ao46 t226.length co46 : Value).ownBlock) (.slice Ao40 t221.length co40) t221) := ⟨by exact Kd.R_mono (Kd.R_far (p := ⟨gb229, 0, none⟩) (Kd.R_types HO223.out BK229.out (by decide)) (fun _ hk => hk.2) (.slice Ao46 t226.length co46)) (fun _ hk => ⟨hk.1.1, hk.1.2⟩)⟩
 have n2_ : Aside0 (Kd.R k67 67 (w45.setCell ⟨gb229, 0, none⟩ (.slice Ao46 t226.length co46)) w.heap.size (fun k_ => some k_ ≠ (v215 : Value).ownBlock ∧ some k_ ≠ (.slice Ao40 t221.length co40 : Value).ownBlock) (.slice Ao46 t226.length co46) t226) := ⟨by exact Kd.R_mono (Kd.R_far (p := ⟨gb229, 0, none⟩) (Kd.R_types HO228.out BK229.out (by decide)) (fun _ hk => hk.2) (.slice Ao46 t226.length co46)) (fun _ hk => ⟨hk.1.1.2, hk.1.2⟩)⟩
 have n3_ : Aside0 ((w45.setCell ⟨gb229, 0, none⟩ (.slice Ao46 t226.length co46)).heap[gb210]? = some (.cells #[.slice A0_0 l0_0.length c0_0] 24 (0, 0))) := ⟨by (with_reducible repeat (first | refine blk_drewN ?_ _ | refine blk_drew ?_ | refine blk_alloc ?_ _)); refine blk_far ?_ NB210_229.out _; (with_reducible repeat (first | refine blk_drewN ?_ _ | refine blk_drew ?_ | refine blk_alloc ?_ _)); exact BK210.out⟩
 have n4_ : Aside0 ((w45.setCell ⟨gb229, 0, none⟩ (.slice Ao46 t226.length co46)).heap[gb211]? = some (.cells #[.int .i64 a1_0, .string a1_1, .string a1_2, .string a1_3] 37 (0, 0))) := ⟨by (with_reducible repeat (first | refine blk_drewN ?_ _ | refine blk_drew ?_ | refine blk_alloc ?_ _)); refine blk_far ?_ NB211_229.out _; (with_reducible repeat (first | refine blk_drewN ?_ _ | refine blk_drew ?_ | refine blk_alloc ?_ _)); exact BK211.out⟩
 have n5_ : Aside0 ((w45.setCell ⟨gb229, 0, none⟩ (.slice Ao46 t226.length co46)).heap[gb225]? = some (.cells #[.slice Ao40 t221.length co40] 30 (0, 0))) := ⟨by (with_reducible repeat (first | refine blk_drewN ?_ _ | refine blk_drew ?_ | refine blk_alloc ?_ _)); refine blk_far ?_ NB225_229.out _; (with_reducible repeat (first | refine blk_drewN ?_ _ | refine blk_drew ?_ | refine blk_alloc ?_ _)); exact BK225.out⟩
 have n6_ : Aside0 ((w45.setCell ⟨gb229, 0, none⟩ (.slice Ao46 t226.length co46)).heap[gb229]? = some (.cells #[.slice Ao46 t226.length co46] 30 (0, 0))) := ⟨by (with_reducible repeat (first | refine blk_drewN ?_ _ | refine blk_drew ?_ | refine blk_alloc ?_ _)); refine blk_put (cs := #[.slice none 0 0]) ?_ 0 _ rfl; (with_reducible repeat (first | refine blk_drewN ?_ _ | refine blk_drew ?_ | refine blk_alloc ?_ _)); exact BK229.out⟩
 have n7_ : Aside0 (Below w.heap.size w (w45.setCell ⟨gb229, 0, none⟩ (.slice Ao46 t226.length co46))) := ⟨hS⟩
 (try clear HO216)
 (try clear HO223)
 (try clear HO228)
 (try clear BK210)
 (try clear BK211)
 (try clear BK225)
 (try clear BK229)
 (try clear HB)
 generalize (w45.setCell ⟨gb229, 0, none⟩ (.slice Ao46 t226.length co46)) = w51 at n0_ n1_ n2_ n3_ n4_ n5_ n6_ n7_ ⊢
 have HO216 := n0_
 have HO223 := n1_
 have HO228 := n2_
 have BK210 := n3_
 have BK211 := n4_
 have BK225 := n5_
 have BK229 := n6_
 have HB := n7_
 clear n0_ n1_ n2_ n3_ n4_ n5_ n6_ n7_
 have n0_ := AM (Kd.R_drew HO216.out)
 have n1_ := AM (Kd.R_drew HO223.out)
 have n2_ := AM (Kd.R_drew HO228.out)
 have n3_ := AM (blk_drew BK210.out)
 have n4_ := AM (blk_drew BK211.out)
 have n5_ := AM (blk_drew BK225.out)
 have n6_ := AM (blk_drew BK229.out)
 have n7_ := AM (below_drew1 HB.out)
 clear HO216
 clear HO223
 clear HO228
 clear BK210
 clear BK211
 clear BK225
 clear BK229
 clear HB
 have HO216 := n0_
 have HO223 := n1_
 have HO228 := n2_
 have BK210 := n3_
 have BK211 := n4_
 have BK225 := n5_
 have BK229 := n6_
 have HB := n7_
 clear n0_ n1_ n2_ n3_ n4_ n5_ n6_ n7_
 refine start_ (n := 10) (S := fun w' => w'.cell? ⟨gb229, 0, none⟩ = some (.slice Ao46 t226.length co46) ∧ w'.cell? ⟨gb211, 0, none⟩ = some (.int .i64 a1_0) ∧ w'.cell? ⟨gb211, 1, none⟩ = some (.string a1_1) ∧ w'.cell? ⟨gb211, 2, none⟩ = some (.string a1_2) ∧ w'.cell? ⟨gb211, 3, none⟩ = some (.string a1_3)) (ds := []) #[false, false, false, false, false, false, false, false, false, false] (by kernel_rfl) rfl rfl ⟨(blk_cell BK229.out 0).trans rfl, (blk_cell BK211.out 0).trans rfl, (blk_cell BK211.out 1).trans rfl, (blk_cell BK211.out 2).trans rfl, (blk_cell BK211.out 3).trans rfl⟩ (fun hHeld => ?_); refine with_tabW laws_FnExactDoAct.tab10 laws_FnExactDoAct.bits10 (fun HT_ HW_ => ?_)
 generalize w51.drew = w52 at HO216 HO223 HO228 BK210 BK211 BK225 BK229 HB hHeld ⊢
 refine take_ (i := 0) (N := some 37) (v := ?_) (a' := ?_) #[true, false, false, false, false, false, false, false, false, false] rfl rfl (take_ofW HT_.out HW_.out (by kernel_rfl)) (fun _ _ _ h => h) (Or.inl ⟨by rfl, ?_⟩) hHeld ?_ ?_
 rotate_left
 ·rintro w' ⟨s0, s1, s2, s3, s4⟩
  go_simp
  with_reducible rfl
 rotate_left
 ·simp only [Act.put, qT, q0, qS, i64_w, i32_w]
  rfl
 refine take_ (i := 1) (N := some 38) (v := ?_) (a' := ?_) #[true, true, false, false, false, false, false, false, false, false] rfl rfl (take_ofW HT_.out HW_.out (by kernel_rfl)) (fun _ _ _ h => h) (Or.inl ⟨by rfl, ?_⟩) hHeld ?_ ?_
 rotate_left
 ·rintro w' ⟨s0, s1, s2, s3, s4⟩
  go_simp
  with_reducible rfl
 rotate_left
 ·simp only [Act.put, qT, q0, qS, i64_w, i32_w]
  rfl
 refine join_ (σ := Value × Nat) 2 #[true, true, true, true, true, true, true, true, false, false] (fun s_ => [(39, .agg #[.int .i64 t230, .string t231, .string t232, .string t233]), (40, .tuple #[.agg #[s_.1], .bool t237]), (9, .pointer (some ⟨s_.2, 0, none⟩)), (36, .tuple #[.agg #[s_.1], .bool t237]), (41, .agg #[s_.1]), (42, .bool t237)]) (fun s_ w' => (w'.cell? ⟨gb229, 0, none⟩ = some (.slice Ao46 t226.length co46) ∧ w'.cell? ⟨gb211, 0, none⟩ = some (.int .i64 a1_0) ∧ w'.cell? ⟨gb211, 1, none⟩ = some (.string a1_1) ∧ w'.cell? ⟨gb211, 2, none⟩ = some (.string a1_2) ∧ w'.cell? ⟨gb211, 3, none⟩ = some (.string a1_3)) ∧ (Kd.R k67 67 w' w.heap.size (fun k_ => some k_ ≠ (.slice Ao40 t221.length co40 : Value).ownBlock ∧ some k_ ≠ (.slice Ao46 t226.length co46 : Value).ownBlock ∧ some k_ ≠ (s_.1 : Value).ownBlock) v215 t214) ∧ (Kd.R k67 67 w' w.heap.size (fun k_ => some k_ ≠ (v215 : Value).ownBlock ∧ some k_ ≠ (.slice Ao46 t226.length co46 : Value).ownBlock ∧ some k_ ≠ (s_.1 : Value).ownBlock) (.slice Ao40 t221.length co40) t221) ∧ (Kd.R k67 67 w' w.heap.size (fun k_ => some k_ ≠ (v215 : Value).ownBlock ∧ some k_ ≠ (.slice Ao40 t221.length co40 : Value).ownBlock ∧ some k_ ≠ (s_.1 : Value).ownBlock) (.slice Ao46 t226.length co46) t226) ∧ (Kd.R k67 67 w' w.heap.size (fun k_ => some k_ ≠ (v215 : Value).ownBlock ∧ some k_ ≠ (.slice Ao40 t221.length co40 : Value).ownBlock ∧ some k_ ≠ (.slice Ao46 t226.length co46 : Value).ownBlock) s_.1 t234) ∧ (w'.heap[gb210]? = some (.cells #[.slice A0_0 l0_0.length c0_0] 24 (0, 0))) ∧ (w'.heap[gb211]? = some (.cells #[.int .i64 a1_0, .string a1_1, .string a1_2, .string a1_3] 37 (0, 0))) ∧ (w'.heap[gb225]? = some (.cells #[.slice Ao40 t221.length co40] 30 (0, 0))) ∧ (w'.heap[gb229]? = some (.cells #[.slice Ao46 t226.length co46] 30 (0, 0))) ∧ (w'.heap[s_.2]? = some (.cells #[.slice none 0 0] 30 (0, 0))) ∧ (w.heap.size ≤ s_.2) ∧ (w.heap.size ≤ s_.2) ∧ (gb210 ≠ s_.2) ∧ (s_.2 ≠ gb210) ∧ (gb211 ≠ s_.2) ∧ (s_.2 ≠ gb211) ∧ (gb225 ≠ s_.2) ∧ (s_.2 ≠ gb225) ∧ (gb229 ≠ s_.2) ∧ (s_.2 ≠ gb229) ∧ (Below w.heap.size w w')) ?_ ?_
 rotate_left
 ·intro hCont
  refine two_ (i := 2) (j := 7) (Ni := some 39) (Nj := some 9) #[true, true, true, false, false, false, false, false, false, false] #[true, true, false, false, false, false, false, true, false, false] rfl rfl rfl rfl (two_of HT_.out (by kernel_rfl)) (by decide) (by decide) (fun K hK => ?_) (fun K hK => ?_)
  ·skip
   refine goes_ Try.func18 (by kernel_rfl) rfl #[.agg #[.int .i64 a1_0, .string a1_1, .string a1_2, .string a1_3]] (by rfl) rfl rfl (by (try simp only [List.map_toArray, List.map_cons, List.map_nil]); first | done | rfl) ?_
   with_reducible refine (laws_toAct.calls a1_0 a1_1 a1_2 a1_3 t230 t231 t232 t233 _ A23.out).mono ?_
   rintro e w53 ⟨rfl, hb⟩
   refine ⟨_, rfl, ?_⟩
   have n0_ := AM (Kd.R_below (by exact HO216.out) hb)
   have n1_ := AM (Kd.R_below (by exact HO223.out) hb)
   have n2_ := AM (Kd.R_below (by exact HO228.out) hb)
   have n3_ := AM (blk_below (g := gb210) (o := .cells #[.slice A0_0 l0_0.length c0_0] 24 (0, 0)) (bk BK210) hb)
   have n4_ := AM (blk_below (g := gb211) (o := .cells #[.int .i64 a1_0, .string a1_1, .string a1_2, .string a1_3] 37 (0, 0)) (bk BK211) hb)
   have n5_ := AM (blk_below (g := gb225) (o := .cells #[.slice Ao40 t221.length co40] 30 (0, 0)) (bk BK225) hb)
   have n6_ := AM (blk_below (g := gb229) (o := .cells #[.slice Ao46 t226.length co46] 30 (0, 0)) (bk BK229) hb)
   have n7_ := AM (below_step (hS) hb)
   clear HO216
   clear HO223
   clear HO228
   clear BK210
   clear BK211
   clear BK225
   clear BK229
   clear HB
   have HO216 := n0_
   have HO223 := n1_
   have HO228 := n2_
   have BK210 := n3_
   have BK211 := n4_
   have BK225 := n5_
   have BK229 := n6_
   have HB := n7_
   clear n0_ n1_ n2_ n3_ n4_ n5_ n6_ n7_
   (try clear hb)
   (try clear hb2)
   (try clear hk)
   (try clear hi)
   refine hK.out _ _ ⟨(blk_cell BK229.out 0).trans rfl, (blk_cell BK211.out 0).trans rfl, (blk_cell BK211.out 1).trans rfl, (blk_cell BK211.out 2).trans rfl, (blk_cell BK211.out 3).trans rfl⟩ (fun hHeld => ?_)
   clear hK K
   refine norm_ (a' := ?_) ?_ ?_
   rotate_left
   ·show Act.put _ (some 39) _ = _
    simp only [Act.put, qT, q0, qS, i64_w, i32_w]
    rfl
   refine two_ (i := 3) (j := 7) (Ni := some 40) (Nj := some 9) #[true, true, true, true, false, false, false, false, false, false] #[true, true, true, false, false, false, false, true, false, false] rfl rfl rfl rfl (two_of HT_.out (by kernel_rfl)) (by decide) (by decide) (fun K hK => ?_) (fun K hK => ?_)
   ·skip
    refine goes_ Try.func19 (by kernel_rfl) rfl #[.agg #[.slice Ao46 t226.length co46], .agg #[.int .i64 t230, .string t231, .string t232, .string t233]] (by rfl) rfl rfl (by (try simp only [List.map_toArray, List.map_cons, List.map_nil]); first | done | rfl) ?_
    with_reducible refine (impl_DoAct.calls k _ _ t226 t230 t231 t232 t233 t234 t237 _ ?side1 ?side2 A24.out).mono ?_
    (case side1 => repeat (first | exact (Kd.R_reads' HO228.out).2.2 | (with_reducible refine Kd.C_alloc ?_ _) | (with_reducible refine Kd.C_drewN ?_ _) | (with_reducible refine Kd.C_drew ?_)))
    (case side2 => exact (Kd.R_reads' HO228.out).2.1)
    rintro e w54 ⟨v235, rfl, ho0, hb⟩
    refine ⟨_, rfl, ?_⟩
    have n0_ := AM (Kd.R_elder' (by exact HO216.out) (Kd.R_base ho0) hb)
    have n1_ := AM (Kd.R_elder' (by exact HO223.out) (Kd.R_base ho0) hb)
    have n2_ := AM (Kd.R_elder' (by exact HO228.out) (Kd.R_base ho0) hb)
    have n3_ := AM (Kd.R_lower (Kd.R_new' (Kd.R_new' (Kd.R_new' ho0 (Kd.R_lt (by exact HO216.out))) (Kd.R_lt (by exact HO223.out))) (Kd.R_lt (by exact HO228.out))) (below_size (hS)))
    have n4_ := AM (blk_below (g := gb210) (o := .cells #[.slice A0_0 l0_0.length c0_0] 24 (0, 0)) (bk BK210) hb)
    have n5_ := AM (blk_below (g := gb211) (o := .cells #[.int .i64 a1_0, .string a1_1, .string a1_2, .string a1_3] 37 (0, 0)) (bk BK211) hb)
    have n6_ := AM (blk_below (g := gb225) (o := .cells #[.slice Ao40 t221.length co40] 30 (0, 0)) (bk BK225) hb)
    have n7_ := AM (blk_below (g := gb229) (o := .cells #[.slice Ao46 t226.length co46] 30 (0, 0)) (bk BK229) hb)
    have n8_ := AM (below_step (hS) hb)
    clear HO216
    clear HO223
    clear HO228
    clear BK210
    clear BK211
    clear BK225
    clear BK229
    clear HB
    have HO216 := n0_
    have HO223 := n1_
    have HO228 := n2_
    have HO236 := n3_
    have BK210 := n4_
    have BK211 := n5_
    have BK225 := n6_
    have BK229 := n7_
    have HB := n8_
    clear n0_ n1_ n2_ n3_ n4_ n5_ n6_ n7_ n8_
    (try clear hb)
    (try clear hb2)
    (try clear hk)
    (try clear hi)
    (try clear ho0)
    refine hK.out _ _ ⟨(blk_cell BK229.out 0).trans rfl, (blk_cell BK211.out 0).trans rfl, (blk_cell BK211.out 1).trans rfl, (blk_cell BK211.out 2).trans rfl, (blk_cell BK211.out 3).trans rfl⟩ (fun hHeld => ?_)
    clear hK K
    refine norm_ (a' := ?_) ?_ ?_
    rotate_left
    ·show Act.put _ (some 40) _ = _
     simp only [Act.put, qT, q0, qS, i64_w, i32_w]
     rfl
    refine pure_ (i := 4) (N := some 36) (v := ?_) (a' := ?_) #[true, true, true, true, true, false, false, false, false, false] rfl rfl (any_of HT_.out (by kernel_rfl)) (fun _ _ _ h => h) (Or.inl ⟨by rfl, ?_⟩) ?_ ?_
    rotate_left
    ·intro w'
     go_simp
     with_reducible rfl
    rotate_left
    ·simp only [Act.put, qT, q0, qS, i64_w, i32_w]
     rfl
    refine pure_ (i := 5) (N := some 41) (v := ?_) (a' := ?_) #[true, true, true, true, true, true, false, false, false, false] rfl rfl (any_of HT_.out (by kernel_rfl)) (fun _ _ _ h => h) (Or.inl ⟨by rfl, ?_⟩) ?_ ?_
    rotate_left
    ·intro w'
     go_simp
     with_reducible rfl
    rotate_left
    ·simp only [Act.put, qT, q0, qS, i64_w, i32_w]
     rfl
    refine pure_ (i := 6) (N := some 42) (v := ?_) (a' := ?_) #[true, true, true, true, true, true, true, false, false, false] rfl rfl (any_of HT_.out (by kernel_rfl)) (fun _ _ _ h => h) (Or.inl ⟨by rfl, ?_⟩) ?_ ?_
    rotate_left
    ·intro w'
     go_simp
     with_reducible rfl
    rotate_left
    ·simp only [Act.put, qT, q0, qS, i64_w, i32_w]
     rfl
    refine one_ (i := 7) (N := some 9) #[true, true, true, true, true, true, true, true, false, false] rfl rfl (one_of HT_.out (by kernel_rfl)) (by decide) (fun K hK => ?_)
    refine box_step ?hg (N := 9) ?hd (cs := #[.slice none 0 0]) (t := 30) ?hr ?_; (case hd => rfl); (case hg => rfl); (case hr => first | (go_simp; done) | (go_simp; rfl))
    intro gb238 hg w55 hbox hb
    have n0_ := AM (Kd.R_below (by exact HO216.out) hb)
    have n1_ := AM (Kd.R_below (by exact HO223.out) hb)
    have n2_ := AM (Kd.R_below (by exact HO228.out) hb)
    have n3_ := AM (Kd.R_below (by exact HO236.out) hb)
    have n4_ := AM (blk_below (g := gb210) (o := .cells #[.slice A0_0 l0_0.length c0_0] 24 (0, 0)) (bk BK210) hb)
    have n5_ := AM (blk_below (g := gb211) (o := .cells #[.int .i64 a1_0, .string a1_1, .string a1_2, .string a1_3] 37 (0, 0)) (bk BK211) hb)
    have n6_ := AM (blk_below (g := gb225) (o := .cells #[.slice Ao40 t221.length co40] 30 (0, 0)) (bk BK225) hb)
    have n7_ := AM (blk_below (g := gb229) (o := .cells #[.slice Ao46 t226.length co46] 30 (0, 0)) (bk BK229) hb)
    have n8_ := AM (below_step (hS) hb)
    have n9_ := AM (hbox)
    have n10_ := AM ((by rw [hg]; exact (below_size (hS)) : w.heap.size ≤ gb238))
    have n11_ := AM ((by rw [hg]; exact (below_size (hS)) : w.heap.size ≤ gb238))
    have n12_ := AM ((by rw [hg]; exact Nat.ne_of_lt (blk_lt (g := gb210) (o := .cells #[.slice A0_0 l0_0.length c0_0] 24 (0, 0)) (bk BK210)) : gb210 ≠ gb238))
    have n13_ := AM ((by rw [hg]; exact Nat.ne_of_gt (blk_lt (g := gb210) (o := .cells #[.slice A0_0 l0_0.length c0_0] 24 (0, 0)) (bk BK210)) : gb238 ≠ gb210))
    have n14_ := AM ((by rw [hg]; exact Nat.ne_of_lt (blk_lt (g := gb211) (o := .cells #[.int .i64 a1_0, .string a1_1, .string a1_2, .string a1_3] 37 (0, 0)) (bk BK211)) : gb211 ≠ gb238))
    have n15_ := AM ((by rw [hg]; exact Nat.ne_of_gt (blk_lt (g := gb211) (o := .cells #[.int .i64 a1_0, .string a1_1, .string a1_2, .string a1_3] 37 (0, 0)) (bk BK211)) : gb238 ≠ gb211))
    have n16_ := AM ((by rw [hg]; exact Nat.ne_of_lt (blk_lt (g := gb225) (o := .cells #[.slice Ao40 t221.length co40] 30 (0, 0)) (bk BK225)) : gb225 ≠ gb238))
    have n17_ := AM ((by rw [hg]; exact Nat.ne_of_gt (blk_lt (g := gb225) (o := .cells #[.slice Ao40 t221.length co40] 30 (0, 0)) (bk BK225)) : gb238 ≠ gb225))
    have n18_ := AM ((by rw [hg]; exact Nat.ne_of_lt (blk_lt (g := gb229) (o := .cells #[.slice Ao46 t226.length co46] 30 (0, 0)) (bk BK229)) : gb229 ≠ gb238))
    have n19_ := AM ((by rw [hg]; exact Nat.ne_of_gt (blk_lt (g := gb229) (o := .cells #[.slice Ao46 t226.length co46] 30 (0, 0)) (bk BK229)) : gb238 ≠ gb229))
    clear HO216
    clear HO223
    clear HO228
    clear HO236
    clear BK210
    clear BK211
    clear BK225
    clear BK229
    clear HB
    have HO216 := n0_
    have HO223 := n1_
    have HO228 := n2_
    have HO236 := n3_
    have BK210 := n4_
    have BK211 := n5_
    have BK225 := n6_
    have BK229 := n7_
    have HB := n8_
    have BK238 := n9_
    have GW238 := n10_
    have GE238 := n11_
    have NB210_238 := n12_
    have NB238_210 := n13_
    have NB211_238 := n14_
    have NB238_211 := n15_
    have NB225_238 := n16_
    have NB238_225 := n17_
    have NB229_238 := n18_
    have NB238_229 := n19_
    clear n0_ n1_ n2_ n3_ n4_ n5_ n6_ n7_ n8_ n9_ n10_ n11_ n12_ n13_ n14_ n15_ n16_ n17_ n18_ n19_
    clear hb hbox hg
    refine hK.out _ _ ⟨(blk_cell BK229.out 0).trans rfl, (blk_cell BK211.out 0).trans rfl, (blk_cell BK211.out 1).trans rfl, (blk_cell BK211.out 2).trans rfl, (blk_cell BK211.out 3).trans rfl⟩ (fun hHeld => ?_)
    clear hK K
    refine norm_ (a' := ?_) ?_ ?_
    rotate_left
    ·show Act.put _ (some 9) _ = _
     simp only [Act.put, qT, q0, qS, i64_w, i32_w]
     rfl
    exact norm_ (by simp only [putAll, Act.put, qT, q0, qS]) (hCont (v235, gb238) _ ⟨hHeld, (by exact Kd.R_mono HO216.out (fun _ hk => ⟨hk.1.1, ⟨hk.1.2, hk.2⟩⟩)), (by exact Kd.R_mono HO223.out (fun _ hk => ⟨hk.1.1, ⟨hk.1.2, hk.2⟩⟩)), (by exact Kd.R_mono HO228.out (fun _ hk => ⟨hk.1.1, ⟨hk.1.2, hk.2⟩⟩)), (by exact Kd.R_mono HO236.out (fun _ hk => ⟨hk.1.1.2, ⟨hk.1.2, hk.2⟩⟩)), (bk BK210), (bk BK211), (bk BK225), (bk BK229), (bk BK238), GW238.out, GE238.out, NB210_238.out, NB238_210.out, NB211_238.out, NB238_211.out, NB225_238.out, NB238_225.out, NB229_238.out, NB238_229.out, (hS)⟩)
   skip
   refine box_step ?hg (N := 9) ?hd (cs := #[.slice none 0 0]) (t := 30) ?hr ?_; (case hd => rfl); (case hg => rfl); (case hr => first | (go_simp; done) | (go_simp; rfl))
   intro gb238 hg w54 hbox hb
   have n0_ := AM (Kd.R_below (by exact HO216.out) hb)
   have n1_ := AM (Kd.R_below (by exact HO223.out) hb)
   have n2_ := AM (Kd.R_below (by exact HO228.out) hb)
   have n3_ := AM (blk_below (g := gb210) (o := .cells #[.slice A0_0 l0_0.length c0_0] 24 (0, 0)) (bk BK210) hb)
   have n4_ := AM (blk_below (g := gb211) (o := .cells #[.int .i64 a1_0, .string a1_1, .string a1_2, .string a1_3] 37 (0, 0)) (bk BK211) hb)
   have n5_ := AM (blk_below (g := gb225) (o := .cells #[.slice Ao40 t221.length co40] 30 (0, 0)) (bk BK225) hb)
   have n6_ := AM (blk_below (g := gb229) (o := .cells #[.slice Ao46 t226.length co46] 30 (0, 0)) (bk BK229) hb)
   have n7_ := AM (below_step (hS) hb)
   have n8_ := AM (hbox)
   have n9_ := AM ((by rw [hg]; exact (below_size (hS)) : w.heap.size ≤ gb238))
   have n10_ := AM ((by rw [hg]; exact (below_size (hS)) : w.heap.size ≤ gb238))
   have n11_ := AM ((by rw [hg]; exact Nat.ne_of_lt (blk_lt (g := gb210) (o := .cells #[.slice A0_0 l0_0.length c0_0] 24 (0, 0)) (bk BK210)) : gb210 ≠ gb238))
   have n12_ := AM ((by rw [hg]; exact Nat.ne_of_gt (blk_lt (g := gb210) (o := .cells #[.slice A0_0 l0_0.length c0_0] 24 (0, 0)) (bk BK210)) : gb238 ≠ gb210))
   have n13_ := AM ((by rw [hg]; exact Nat.ne_of_lt (blk_lt (g := gb211) (o := .cells #[.int .i64 a1_0, .string a1_1, .string a1_2, .string a1_3] 37 (0, 0)) (bk BK211)) : gb211 ≠ gb238))
   have n14_ := AM ((by rw [hg]; exact Nat.ne_of_gt (blk_lt (g := gb211) (o := .cells #[.int .i64 a1_0, .string a1_1, .string a1_2, .string a1_3] 37 (0, 0)) (bk BK211)) : gb238 ≠ gb211))
   have n15_ := AM ((by rw [hg]; exact Nat.ne_of_lt (blk_lt (g := gb225) (o := .cells #[.slice Ao40 t221.length co40] 30 (0, 0)) (bk BK225)) : gb225 ≠ gb238))
   have n16_ := AM ((by rw [hg]; exact Nat.ne_of_gt (blk_lt (g := gb225) (o := .cells #[.slice Ao40 t221.length co40] 30 (0, 0)) (bk BK225)) : gb238 ≠ gb225))
   have n17_ := AM ((by rw [hg]; exact Nat.ne_of_lt (blk_lt (g := gb229) (o := .cells #[.slice Ao46 t226.length co46] 30 (0, 0)) (bk BK229)) : gb229 ≠ gb238))
   have n18_ := AM ((by rw [hg]; exact Nat.ne_of_gt (blk_lt (g := gb229) (o := .cells #[.slice Ao46 t226.length co46] 30 (0, 0)) (bk BK229)) : gb238 ≠ gb229))
   clear HO216
   clear HO223
   clear HO228
   clear BK210
   clear BK211
   clear BK225
   clear BK229
   clear HB
   have HO216 := n0_
   have HO223 := n1_
   have HO228 := n2_
   have BK210 := n3_
   have BK211 := n4_
   have BK225 := n5_
   have BK229 := n6_
   have HB := n7_
   have BK238 := n8_
   have GW238 := n9_
   have GE238 := n10_
   have NB210_238 := n11_
   have NB238_210 := n12_
   have NB211_238 := n13_
   have NB238_211 := n14_
   have NB225_238 := n15_
   have NB238_225 := n16_
   have NB229_238 := n17_
   have NB238_229 := n18_
   clear n0_ n1_ n2_ n3_ n4_ n5_ n6_ n7_ n8_ n9_ n10_ n11_ n12_ n13_ n14_ n15_ n16_ n17_ n18_
   clear hb hbox hg
   refine hK.out _ _ ⟨(blk_cell BK229.out 0).trans rfl, (blk_cell BK211.out 0).trans rfl, (blk_cell BK211.out 1).trans rfl, (blk_cell BK211.out 2).trans rfl, (blk_cell BK211.out 3).trans rfl⟩ (fun hHeld => ?_)
   clear hK K
   refine norm_ (a' := ?_) ?_ ?_
   rotate_left
   ·show Act.put _ (some 9) _ = _
    simp only [Act.put, qT, q0, qS, i64_w, i32_w]
    rfl
   refine one_ (i := 3) (N := some 40) #[true, true, true, true, false, false, false, true, false, false] rfl rfl (one_of HT_.out (by kernel_rfl)) (by decide) (fun K hK => ?_)
   refine goes_ Try.func19 (by kernel_rfl) rfl #[.agg #[.slice Ao46 t226.length co46], .agg #[.int .i64 t230, .string t231, .string t232, .string t233]] (by rfl) rfl rfl (by (try simp only [List.map_toArray, List.map_cons, List.map_nil]); first | done | rfl) ?_
   with_reducible refine (impl_DoAct.calls k _ _ t226 t230 t231 t232 t233 t234 t237 _ ?side1 ?side2 A24.out).mono ?_
   (case side1 => repeat (first | exact (Kd.R_reads' HO228.out).2.2 | (with_reducible refine Kd.C_alloc ?_ _) | (with_reducible refine Kd.C_drewN ?_ _) | (with_reducible refine Kd.C_drew ?_)))
   (case side2 => exact (Kd.R_reads' HO228.out).2.1)
   rintro e w55 ⟨v235, rfl, ho0, hb⟩
   refine ⟨_, rfl, ?_⟩
   have n0_ := AM (Kd.R_elder' (by exact HO216.out) (Kd.R_base ho0) hb)
   have n1_ := AM (Kd.R_elder' (by exact HO223.out) (Kd.R_base ho0) hb)
   have n2_ := AM (Kd.R_elder' (by exact HO228.out) (Kd.R_base ho0) hb)
   have n3_ := AM (Kd.R_lower (Kd.R_new' (Kd.R_new' (Kd.R_new' ho0 (Kd.R_lt (by exact HO216.out))) (Kd.R_lt (by exact HO223.out))) (Kd.R_lt (by exact HO228.out))) (below_size (hS)))
   have n4_ := AM (blk_below (g := gb210) (o := .cells #[.slice A0_0 l0_0.length c0_0] 24 (0, 0)) (bk BK210) hb)
   have n5_ := AM (blk_below (g := gb211) (o := .cells #[.int .i64 a1_0, .string a1_1, .string a1_2, .string a1_3] 37 (0, 0)) (bk BK211) hb)
   have n6_ := AM (blk_below (g := gb225) (o := .cells #[.slice Ao40 t221.length co40] 30 (0, 0)) (bk BK225) hb)
   have n7_ := AM (blk_below (g := gb229) (o := .cells #[.slice Ao46 t226.length co46] 30 (0, 0)) (bk BK229) hb)
   have n8_ := AM (blk_below (g := gb238) (o := .cells #[.slice none 0 0] 30 (0, 0)) (bk BK238) hb)
   have n9_ := AM (below_step (hS) hb)
   clear HO216
   clear HO223
   clear HO228
   clear BK210
   clear BK211
   clear BK225
   clear BK229
   clear BK238
   clear HB
   have HO216 := n0_
   have HO223 := n1_
   have HO228 := n2_
   have HO236 := n3_
   have BK210 := n4_
   have BK211 := n5_
   have BK225 := n6_
   have BK229 := n7_
   have BK238 := n8_
   have HB := n9_
   clear n0_ n1_ n2_ n3_ n4_ n5_ n6_ n7_ n8_ n9_
   (try clear hb)
   (try clear hb2)
   (try clear hk)
   (try clear hi)
   (try clear ho0)
   refine hK.out _ _ ⟨(blk_cell BK229.out 0).trans rfl, (blk_cell BK211.out 0).trans rfl, (blk_cell BK211.out 1).trans rfl, (blk_cell BK211.out 2).trans rfl, (blk_cell BK211.out 3).trans rfl⟩ (fun hHeld => ?_)
   clear hK K
   refine norm_ (a' := ?_) ?_ ?_
   rotate_left
   ·show Act.put _ (some 40) _ = _
    simp only [Act.put, qT, q0, qS, i64_w, i32_w]
    rfl
   refine pure_ (i := 4) (N := some 36) (v := ?_) (a' := ?_) #[true, true, true, true, true, false, false, true, false, false] rfl rfl (any_of HT_.out (by kernel_rfl)) (fun _ _ _ h => h) (Or.inl ⟨by rfl, ?_⟩) ?_ ?_
   rotate_left
   ·intro w'
    go_simp
    with_reducible rfl
   rotate_left
   ·simp only [Act.put, qT, q0, qS, i64_w, i32_w]
    rfl
   refine pure_ (i := 5) (N := some 41) (v := ?_) (a' := ?_) #[true, true, true, true, true, true, false, true, false, false] rfl rfl (any_of HT_.out (by kernel_rfl)) (fun _ _ _ h => h) (Or.inl ⟨by rfl, ?_⟩) ?_ ?_
   rotate_left
   ·intro w'
    go_simp
    with_reducible rfl
   rotate_left
   ·simp only [Act.put, qT, q0, qS, i64_w, i32_w]
    rfl
   refine pure_ (i := 6) (N := some 42) (v := ?_) (a' := ?_) #[true, true, true, true, true, true, true, true, false, false] rfl rfl (any_of HT_.out (by kernel_rfl)) (fun _ _ _ h => h) (Or.inl ⟨by rfl, ?_⟩) ?_ ?_
   rotate_left
   ·intro w'
    go_simp
    with_reducible rfl
   rotate_left
   ·simp only [Act.put, qT, q0, qS, i64_w, i32_w]
    rfl
   exact norm_ (by simp only [putAll, Act.put, qT, q0, qS]) (hCont (v235, gb238) _ ⟨hHeld, (by exact Kd.R_mono HO216.out (fun _ hk => ⟨hk.1.1, ⟨hk.1.2, hk.2⟩⟩)), (by exact Kd.R_mono HO223.out (fun _ hk => ⟨hk.1.1, ⟨hk.1.2, hk.2⟩⟩)), (by exact Kd.R_mono HO228.out (fun _ hk => ⟨hk.1.1, ⟨hk.1.2, hk.2⟩⟩)), (by exact Kd.R_mono HO236.out (fun _ hk => ⟨hk.1.1.2, ⟨hk.1.2, hk.2⟩⟩)), (bk BK210), (bk BK211), (bk BK225), (bk BK229), (bk BK238), GW238.out, GE238.out, NB210_238.out, NB238_210.out, NB211_238.out, NB238_211.out, NB225_238.out, NB238_225.out, NB229_238.out, NB238_229.out, (hS)⟩)
  skip
  refine box_step ?hg (N := 9) ?hd (cs := #[.slice none 0 0]) (t := 30) ?hr ?_; (case hd => rfl); (case hg => rfl); (case hr => first | (go_simp; done) | (go_simp; rfl))
  intro gb238 hg w53 hbox hb
  have n0_ := AM (Kd.R_below (by exact HO216.out) hb)
  have n1_ := AM (Kd.R_below (by exact HO223.out) hb)
  have n2_ := AM (Kd.R_below (by exact HO228.out) hb)
  have n3_ := AM (blk_below (g := gb210) (o := .cells #[.slice A0_0 l0_0.length c0_0] 24 (0, 0)) (bk BK210) hb)
  have n4_ := AM (blk_below (g := gb211) (o := .cells #[.int .i64 a1_0, .string a1_1, .string a1_2, .string a1_3] 37 (0, 0)) (bk BK211) hb)
  have n5_ := AM (blk_below (g := gb225) (o := .cells #[.slice Ao40 t221.length co40] 30 (0, 0)) (bk BK225) hb)
  have n6_ := AM (blk_below (g := gb229) (o := .cells #[.slice Ao46 t226.length co46] 30 (0, 0)) (bk BK229) hb)
  have n7_ := AM (below_step (hS) hb)
  have n8_ := AM (hbox)
  have n9_ := AM ((by rw [hg]; exact (below_size (hS)) : w.heap.size ≤ gb238))
  have n10_ := AM ((by rw [hg]; exact (below_size (hS)) : w.heap.size ≤ gb238))
  have n11_ := AM ((by rw [hg]; exact Nat.ne_of_lt (blk_lt (g := gb210) (o := .cells #[.slice A0_0 l0_0.length c0_0] 24 (0, 0)) (bk BK210)) : gb210 ≠ gb238))
  have n12_ := AM ((by rw [hg]; exact Nat.ne_of_gt (blk_lt (g := gb210) (o := .cells #[.slice A0_0 l0_0.length c0_0] 24 (0, 0)) (bk BK210)) : gb238 ≠ gb210))
  have n13_ := AM ((by rw [hg]; exact Nat.ne_of_lt (blk_lt (g := gb211) (o := .cells #[.int .i64 a1_0, .string a1_1, .string a1_2, .string a1_3] 37 (0, 0)) (bk BK211)) : gb211 ≠ gb238))
  have n14_ := AM ((by rw [hg]; exact Nat.ne_of_gt (blk_lt (g := gb211) (o := .cells #[.int .i64 a1_0, .string a1_1, .string a1_2, .string a1_3] 37 (0, 0)) (bk BK211)) : gb238 ≠ gb211))
  have n15_ := AM ((by rw [hg]; exact Nat.ne_of_lt (blk_lt (g := gb225) (o := .cells #[.slice Ao40 t221.length co40] 30 (0, 0)) (bk BK225)) : gb225 ≠ gb238))
  have n16_ := AM ((by rw [hg]; exact Nat.ne_of_gt (blk_lt (g := gb225) (o := .cells #[.slice Ao40 t221.length co40] 30 (0, 0)) (bk BK225)) : gb238 ≠ gb225))
  have n17_ := AM ((by rw [hg]; exact Nat.ne_of_lt (blk_lt (g := gb229) (o := .cells #[.slice Ao46 t226.length co46] 30 (0, 0)) (bk BK229)) : gb229 ≠ gb238))
  have n18_ := AM ((by rw [hg]; exact Nat.ne_of_gt (blk_lt (g := gb229) (o := .cells #[.slice Ao46 t226.length co46] 30 (0, 0)) (bk BK229)) : gb238 ≠ gb229))
  clear HO216
  clear HO223
  clear HO228
  clear BK210
  clear BK211
  clear BK225
  clear BK229
  clear HB
  have HO216 := n0_
  have HO223 := n1_
  have HO228 := n2_
  have BK210 := n3_
  have BK211 := n4_
  have BK225 := n5_
  have BK229 := n6_
  have HB := n7_
  have BK238 := n8_
  have GW238 := n9_
  have GE238 := n10_
  have NB210_238 := n11_
  have NB238_210 := n12_
  have NB211_238 := n13_
  have NB238_211 := n14_
  have NB225_238 := n15_
  have NB238_225 := n16_
  have NB229_238 := n17_
  have NB238_229 := n18_
  clear n0_ n1_ n2_ n3_ n4_ n5_ n6_ n7_ n8_ n9_ n10_ n11_ n12_ n13_ n14_ n15_ n16_ n17_ n18_
  clear hb hbox hg
  refine hK.out _ _ ⟨(blk_cell BK229.out 0).trans rfl, (blk_cell BK211.out 0).trans rfl, (blk_cell BK211.out 1).trans rfl, (blk_cell BK211.out 2).trans rfl, (blk_cell BK211.out 3).trans rfl⟩ (fun hHeld => ?_)
  clear hK K
  refine norm_ (a' := ?_) ?_ ?_
  rotate_left
  ·show Act.put _ (some 9) _ = _
   simp only [Act.put, qT, q0, qS, i64_w, i32_w]
   rfl
  refine one_ (i := 2) (N := some 39) #[true, true, true, false, false, false, false, true, false, false] rfl rfl (one_of HT_.out (by kernel_rfl)) (by decide) (fun K hK => ?_)
  refine goes_ Try.func18 (by kernel_rfl) rfl #[.agg #[.int .i64 a1_0, .string a1_1, .string a1_2, .string a1_3]] (by rfl) rfl rfl (by (try simp only [List.map_toArray, List.map_cons, List.map_nil]); first | done | rfl) ?_
  with_reducible refine (laws_toAct.calls a1_0 a1_1 a1_2 a1_3 t230 t231 t232 t233 _ A23.out).mono ?_
  rintro e w54 ⟨rfl, hb⟩
  refine ⟨_, rfl, ?_⟩
  have n0_ := AM (Kd.R_below (by exact HO216.out) hb)
  have n1_ := AM (Kd.R_below (by exact HO223.out) hb)
  have n2_ := AM (Kd.R_below (by exact HO228.out) hb)
  have n3_ := AM (blk_below (g := gb210) (o := .cells #[.slice A0_0 l0_0.length c0_0] 24 (0, 0)) (bk BK210) hb)
  have n4_ := AM (blk_below (g := gb211) (o := .cells #[.int .i64 a1_0, .string a1_1, .string a1_2, .string a1_3] 37 (0, 0)) (bk BK211) hb)
  have n5_ := AM (blk_below (g := gb225) (o := .cells #[.slice Ao40 t221.length co40] 30 (0, 0)) (bk BK225) hb)
  have n6_ := AM (blk_below (g := gb229) (o := .cells #[.slice Ao46 t226.length co46] 30 (0, 0)) (bk BK229) hb)
  have n7_ := AM (blk_below (g := gb238) (o := .cells #[.slice none 0 0] 30 (0, 0)) (bk BK238) hb)
  have n8_ := AM (below_step (hS) hb)
  clear HO216
  clear HO223
  clear HO228
  clear BK210
  clear BK211
  clear BK225
  clear BK229
  clear BK238
  clear HB
  have HO216 := n0_
  have HO223 := n1_
  have HO228 := n2_
  have BK210 := n3_
  have BK211 := n4_
  have BK225 := n5_
  have BK229 := n6_
  have BK238 := n7_
  have HB := n8_
  clear n0_ n1_ n2_ n3_ n4_ n5_ n6_ n7_ n8_
  (try clear hb)
  (try clear hb2)
  (try clear hk)
  (try clear hi)
  refine hK.out _ _ ⟨(blk_cell BK229.out 0).trans rfl, (blk_cell BK211.out 0).trans rfl, (blk_cell BK211.out 1).trans rfl, (blk_cell BK211.out 2).trans rfl, (blk_cell BK211.out 3).trans rfl⟩ (fun hHeld => ?_)
  clear hK K
  refine norm_ (a' := ?_) ?_ ?_
  rotate_left
  ·show Act.put _ (some 39) _ = _
   simp only [Act.put, qT, q0, qS, i64_w, i32_w]
   rfl
  refine one_ (i := 3) (N := some 40) #[true, true, true, true, false, false, false, true, false, false] rfl rfl (one_of HT_.out (by kernel_rfl)) (by decide) (fun K hK => ?_)
  refine goes_ Try.func19 (by kernel_rfl) rfl #[.agg #[.slice Ao46 t226.length co46], .agg #[.int .i64 t230, .string t231, .string t232, .string t233]] (by rfl) rfl rfl (by (try simp only [List.map_toArray, List.map_cons, List.map_nil]); first | done | rfl) ?_
  with_reducible refine (impl_DoAct.calls k _ _ t226 t230 t231 t232 t233 t234 t237 _ ?side1 ?side2 A24.out).mono ?_
  (case side1 => repeat (first | exact (Kd.R_reads' HO228.out).2.2 | (with_reducible refine Kd.C_alloc ?_ _) | (with_reducible refine Kd.C_drewN ?_ _) | (with_reducible refine Kd.C_drew ?_)))
  (case side2 => exact (Kd.R_reads' HO228.out).2.1)
  rintro e w55 ⟨v235, rfl, ho0, hb⟩
  refine ⟨_, rfl, ?_⟩
  have n0_ := AM (Kd.R_elder' (by exact HO216.out) (Kd.R_base ho0) hb)
  have n1_ := AM (Kd.R_elder' (by exact HO223.out) (Kd.R_base ho0) hb)
  have n2_ := AM (Kd.R_elder' (by exact HO228.out) (Kd.R_base ho0) hb)
  have n3_ := AM (Kd.R_lower (Kd.R_new' (Kd.R_new' (Kd.R_new' ho0 (Kd.R_lt (by exact HO216.out))) (Kd.R_lt (by exact HO223.out))) (Kd.R_lt (by exact HO228.out))) (below_size (hS)))
  have n4_ := AM (blk_below (g := gb210) (o := .cells #[.slice A0_0 l0_0.length c0_0] 24 (0, 0)) (bk BK210) hb)
  have n5_ := AM (blk_below (g := gb211) (o := .cells #[.int .i64 a1_0, .string a1_1, .string a1_2, .string a1_3] 37 (0, 0)) (bk BK211) hb)
  have n6_ := AM (blk_below (g := gb225) (o := .cells #[.slice Ao40 t221.length co40] 30 (0, 0)) (bk BK225) hb)
  have n7_ := AM (blk_below (g := gb229) (o := .cells #[.slice Ao46 t226.length co46] 30 (0, 0)) (bk BK229) hb)
  have n8_ := AM (blk_below (g := gb238) (o := .cells #[.slice none 0 0] 30 (0, 0)) (bk BK238) hb)
  have n9_ := AM (below_step (hS) hb)
  clear HO216
  clear HO223
  clear HO228
  clear BK210
  clear BK211
  clear BK225
  clear BK229
  clear BK238
  clear HB
  have HO216 := n0_
  have HO223 := n1_
  have HO228 := n2_
  have HO236 := n3_
  have BK210 := n4_
  have BK211 := n5_
  have BK225 := n6_
  have BK229 := n7_
  have BK238 := n8_
  have HB := n9_
  clear n0_ n1_ n2_ n3_ n4_ n5_ n6_ n7_ n8_ n9_
  (try clear hb)
  (try clear hb2)
  (try clear hk)
  (try clear hi)
  (try clear ho0)
  refine hK.out _ _ ⟨(blk_cell BK229.out 0).trans rfl, (blk_cell BK211.out 0).trans rfl, (blk_cell BK211.out 1).trans rfl, (blk_cell BK211.out 2).trans rfl, (blk_cell BK211.out 3).trans rfl⟩ (fun hHeld => ?_)
  clear hK K
  refine norm_ (a' := ?_) ?_ ?_
  rotate_left
  ·show Act.put _ (some 40) _ = _
   simp only [Act.put, qT, q0, qS, i64_w, i32_w]
   rfl
  refine pure_ (i := 4) (N := some 36) (v := ?_) (a' := ?_) #[true, true, true, true, true, false, false, true, false, false] rfl rfl (any_of HT_.out (by kernel_rfl)) (fun _ _ _ h => h) (Or.inl ⟨by rfl, ?_⟩) ?_ ?_
  rotate_left
  ·intro w'
   go_simp
   with_reducible rfl
  rotate_left
  ·simp only [Act.put, qT, q0, qS, i64_w, i32_w]
   rfl
  refine pure_ (i := 5) (N := some 41) (v := ?_) (a' := ?_) #[true, true, true, true, true, true, false, true, false, false] rfl rfl (any_of HT_.out (by kernel_rfl)) (fun _ _ _ h => h) (Or.inl ⟨by rfl, ?_⟩) ?_ ?_
  rotate_left
  ·intro w'
   go_simp
   with_reducible rfl
  rotate_left
  ·simp only [Act.put, qT, q0, qS, i64_w, i32_w]
   rfl
  refine pure_ (i := 6) (N := some 42) (v := ?_) (a' := ?_) #[true, true, true, true, true, true, true, true, false, false] rfl rfl (any_of HT_.out (by kernel_rfl)) (fun _ _ _ h => h) (Or.inl ⟨by rfl, ?_⟩) ?_ ?_
  rotate_left
  ·intro w'
   go_simp
   with_reducible rfl
  rotate_left
  ·simp only [Act.put, qT, q0, qS, i64_w, i32_w]
   rfl
  exact norm_ (by simp only [putAll, Act.put, qT, q0, qS]) (hCont (v235, gb238) _ ⟨hHeld, (by exact Kd.R_mono HO216.out (fun _ hk => ⟨hk.1.1, ⟨hk.1.2, hk.2⟩⟩)), (by exact Kd.R_mono HO223.out (fun _ hk => ⟨hk.1.1, ⟨hk.1.2, hk.2⟩⟩)), (by exact Kd.R_mono HO228.out (fun _ hk => ⟨hk.1.1, ⟨hk.1.2, hk.2⟩⟩)), (by exact Kd.R_mono HO236.out (fun _ hk => ⟨hk.1.1.2, ⟨hk.1.2, hk.2⟩⟩)), (bk BK210), (bk BK211), (bk BK225), (bk BK229), (bk BK238), GW238.out, GE238.out, NB210_238.out, NB238_210.out, NB211_238.out, NB238_211.out, NB225_238.out, NB238_225.out, NB229_238.out, NB238_229.out, (hS)⟩)
 rintro ⟨v235, gb238⟩ w56 ⟨hS_, h0_, h1_, h2_, h3_, h4_, h5_, h6_, h7_, h8_, h9_, h10_, h11_, h12_, h13_, h14_, h15_, h16_, h17_, h18_, h19_⟩
 have n0_ : Aside0 (Kd.R k67 67 w56 w.heap.size (fun k_ => some k_ ≠ (.slice Ao40 t221.length co40 : Value).ownBlock ∧ some k_ ≠ (.slice Ao46 t226.length co46 : Value).ownBlock ∧ some k_ ≠ (v235 : Value).ownBlock) v215 t214) := ⟨h0_⟩
 have n1_ : Aside0 (Kd.R k67 67 w56 w.heap.size (fun k_ => some k_ ≠ (v215 : Value).ownBlock ∧ some k_ ≠ (.slice Ao46 t226.length co46 : Value).ownBlock ∧ some k_ ≠ (v235 : Value).ownBlock) (.slice Ao40 t221.length co40) t221) := ⟨h1_⟩
 have n2_ : Aside0 (Kd.R k67 67 w56 w.heap.size (fun k_ => some k_ ≠ (v215 : Value).ownBlock ∧ some k_ ≠ (.slice Ao40 t221.length co40 : Value).ownBlock ∧ some k_ ≠ (v235 : Value).ownBlock) (.slice Ao46 t226.length co46) t226) := ⟨h2_⟩
 have n3_ : Aside0 (Kd.R k67 67 w56 w.heap.size (fun k_ => some k_ ≠ (v215 : Value).ownBlock ∧ some k_ ≠ (.slice Ao40 t221.length co40 : Value).ownBlock ∧ some k_ ≠ (.slice Ao46 t226.length co46 : Value).ownBlock) v235 t234) := ⟨h3_⟩
 have n4_ : Aside0 (w56.heap[gb210]? = some (.cells #[.slice A0_0 l0_0.length c0_0] 24 (0, 0))) := ⟨h4_⟩
 have n5_ : Aside0 (w56.heap[gb211]? = some (.cells #[.int .i64 a1_0, .string a1_1, .string a1_2, .string a1_3] 37 (0, 0))) := ⟨h5_⟩
 have n6_ : Aside0 (w56.heap[gb225]? = some (.cells #[.slice Ao40 t221.length co40] 30 (0, 0))) := ⟨h6_⟩
 have n7_ : Aside0 (w56.heap[gb229]? = some (.cells #[.slice Ao46 t226.length co46] 30 (0, 0))) := ⟨h7_⟩
 have n8_ : Aside0 (w56.heap[gb238]? = some (.cells #[.slice none 0 0] 30 (0, 0))) := ⟨h8_⟩
 have n9_ : Aside0 (w.heap.size ≤ gb238) := ⟨h9_⟩
 have n10_ : Aside0 (w.heap.size ≤ gb238) := ⟨h10_⟩
 have n11_ : Aside0 (gb210 ≠ gb238) := ⟨h11_⟩
 have n12_ : Aside0 (gb238 ≠ gb210) := ⟨h12_⟩
 have n13_ : Aside0 (gb211 ≠ gb238) := ⟨h13_⟩
 have n14_ : Aside0 (gb238 ≠ gb211) := ⟨h14_⟩
 have n15_ : Aside0 (gb225 ≠ gb238) := ⟨h15_⟩
 have n16_ : Aside0 (gb238 ≠ gb225) := ⟨h16_⟩
 have n17_ : Aside0 (gb229 ≠ gb238) := ⟨h17_⟩
 have n18_ : Aside0 (gb238 ≠ gb229) := ⟨h18_⟩
 have n19_ : Aside0 (Below w.heap.size w w56) := ⟨h19_⟩
 clear HO216
 clear HO223
 clear HO228
 clear BK210
 clear BK211
 clear BK225
 clear BK229
 clear HB
 clear h0_ h1_ h2_ h3_ h4_ h5_ h6_ h7_ h8_ h9_ h10_ h11_ h12_ h13_ h14_ h15_ h16_ h17_ h18_ h19_
 have HO216 := n0_
 have HO223 := n1_
 have HO228 := n2_
 have HO236 := n3_
 have BK210 := n4_
 have BK211 := n5_
 have BK225 := n6_
 have BK229 := n7_
 have BK238 := n8_
 have GW238 := n9_
 have GE238 := n10_
 have NB210_238 := n11_
 have NB238_210 := n12_
 have NB211_238 := n13_
 have NB238_211 := n14_
 have NB225_238 := n15_
 have NB238_225 := n16_
 have NB229_238 := n17_
 have NB238_229 := n18_
 have HB := n19_
 clear n0_ n1_ n2_ n3_ n4_ n5_ n6_ n7_ n8_ n9_ n10_ n11_ n12_ n13_ n14_ n15_ n16_ n17_ n18_ n19_
 have hHeld : w56.cell? ⟨gb229, 0, none⟩ = some (.slice Ao46 t226.length co46) ∧ w56.cell? ⟨gb211, 0, none⟩ = some (.int .i64 a1_0) ∧ w56.cell? ⟨gb211, 1, none⟩ = some (.string a1_1) ∧ w56.cell? ⟨gb211, 2, none⟩ = some (.string a1_2) ∧ w56.cell? ⟨gb211, 3, none⟩ = some (.string a1_3) := hS_
 obtain ⟨Ao57, co57, eo57⟩ := Kd.R_slice HO236.out
 (first | subst eo57 | (injection eo57 with f1_ f2_ f3_; have f4_ := f1_.symm; have f5_ := f3_.symm; clear f1_ f2_ f3_; subst f4_; subst f5_))
 refine norm_ (a' := ?_) ?_ ?_
 rotate_left
 ·simp only [putAll, Act.put, qT, q0, qS]
  rfl
 refine one_ (i := 8) (N := none) #[true, true, true, true, true, true, true, true, true, false] rfl rfl (one_of HT_.out (by kernel_rfl)) (by decide) (fun K hK => ?_)
 have hs58 : w56.cell? ⟨gb238, 0, none⟩ = some (.slice none 0 0) := (blk_cell BK238.out 0).trans rfl
 have hfs58 := blk_frozen BK238.out 0
 have hns58_0 := NB210_238.out
 have hns58_1 := NB211_238.out
 have hns58_2 := NB225_238.out
 have hns58_3 := NB229_238.out
 have hms58_0 := NB238_210.out
 have hms58_1 := NB238_211.out
 have hms58_2 := NB238_225.out
 have hms58_3 := NB238_229.out
 refine skip_ (w1 := ?_) (by rfl) rfl ?_ ?_
 rotate_left
 ·go_simp
  rfl
 refine hK.out _ _ ⟨((cell_far (p := ⟨gb238, _, none⟩) NB229_238.out _).trans (hHeld.1)), ((cell_far (p := ⟨gb238, _, none⟩) NB211_238.out _).trans (hHeld.2.1)), ((cell_far (p := ⟨gb238, _, none⟩) NB211_238.out _).trans (hHeld.2.2.1)), ((cell_far (p := ⟨gb238, _, none⟩) NB211_238.out _).trans (hHeld.2.2.2.1)), ((cell_far (p := ⟨gb238, _, none⟩) NB211_238.out _).trans (hHeld.2.2.2.2))⟩ (fun hHeld => ?_)
 clear hK K
 refine pure_ (i := 9) (N := some 10) (v := ?_) (a' := ?_) #[true, true, true, true, true, true, true, true, true, true] rfl rfl (any_of HT_.out (by kernel_rfl)) (fun _ _ _ h => h) (Or.inl ⟨by rfl, ?_⟩) ?_ ?_
 rotate_left
 ·intro w'
  go_simp
  with_reducible rfl
 rotate_left
 ·simp only [Act.put, qT, q0, qS, i64_w, i32_w]
  rfl
 refine done_ (done_of HT_.out (by kernel_rfl)) ?_
 go_upto_region 11 with (fail)
 go_cut [51] (fun v51 wc => ∃ (kq : Nat) (x51_24 : Bool), v51 = .bool x51_24 ∧ Aside0 (laws_FnExactDoAct.j0 kq t224 t237 x51_24 l0_0 a1_0 a1_1 a1_2 a1_3 t221 t226 t234 = some r) ∧ Aside0 (kq ≤ k) ∧ Aside0 (Kd.R k67 67 wc w.heap.size (fun k_ => some k_ ≠ ((.slice Ao46 t226.length co46) : Value).ownBlock ∧ some k_ ≠ ((.slice Ao57 t234.length co57) : Value).ownBlock) (.slice Ao40 t221.length co40) t221) ∧ Aside0 (Kd.R k67 67 wc w.heap.size (fun k_ => some k_ ≠ ((.slice Ao40 t221.length co40) : Value).ownBlock ∧ some k_ ≠ ((.slice Ao57 t234.length co57) : Value).ownBlock) (.slice Ao46 t226.length co46) t226) ∧ Aside0 (Kd.R k67 67 wc w.heap.size (fun k_ => some k_ ≠ ((.slice Ao40 t221.length co40) : Value).ownBlock ∧ some k_ ≠ ((.slice Ao46 t226.length co46) : Value).ownBlock) (.slice Ao57 t234.length co57) t234) ∧ Aside0 (wc.heap[gb210]? = some (.cells #[(.slice A0_0 l0_0.length c0_0)] 24 (0, 0))) ∧ Aside0 (wc.heap[gb211]? = some (.cells #[.int .i64 a1_0, .string a1_1, .string a1_2, .string a1_3] 37 (0, 0))) ∧ Aside0 (wc.heap[gb225]? = some (.cells #[(.slice Ao40 t221.length co40)] 30 (0, 0))) ∧ Aside0 (wc.heap[gb229]? = some (.cells #[(.slice Ao46 t226.length co46)] 30 (0, 0))) ∧ Aside0 (wc.heap[gb238]? = some (.cells #[(.slice Ao57 t234.length co57)] 30 (0, 0))) ∧ Aside0 (Below w.heap.size w wc))
 case first =>
  have H := HC25.out
  clear HC25
  replace H := bm H
  obtain ⟨t239, A590, H⟩ := H
  replace H : (if t239 = true then (laws_FnExactDoAct.j0 k t224 t237 (t237 != t224) l0_0 a1_0 a1_1 a1_2 a1_3 t221 t226 t234) else (laws_FnExactDoAct.j0 k t224 t237 true l0_0 a1_0 a1_1 a1_2 a1_3 t221 t226 t234)) = some r := H
  have A59 := AM A590
  clear A590
  by_cases c60 : t239 = true
  ·subst c60
   have H1 : (laws_FnExactDoAct.j0 k t224 t237 (t237 != t224) l0_0 a1_0 a1_1 a1_2 a1_3 t221 t226 t234) = some r := by rw [if_pos rfl] at H; exact H
   clear H
   have H := H1
   clear H1
   have H' := AM H
   clear H
   have hnb61 := NB238_210.out
   have hnc61 := NB210_238.out
   have hnb62 := NB238_211.out
   have hnc62 := NB211_238.out
   have hnb63 := NB238_225.out
   have hnc63 := NB225_238.out
   have hnb64 := NB238_229.out
   have hnc64 := NB229_238.out
   have hcz65_0 : w56.cell? ⟨gb238, 0, none⟩ = some (.slice none 0 0) := (blk_cell BK238.out 0).trans rfl
   have hfz65_0 := blk_frozen BK238.out 0
   have hnb66 := NB225_210.out
   have hnc66 := NB210_225.out
   have hnb67 := NB225_211.out
   have hnc67 := NB211_225.out
   have hnb68 := NB225_229.out
   have hnc68 := NB229_225.out
   have hcz69_0 : w56.cell? ⟨gb225, 0, none⟩ = some (.slice Ao40 t221.length co40) := (blk_cell BK225.out 0).trans rfl
   have hfz69_0 := blk_frozen BK225.out 0
   go_wp2_with (first | ((with_reducible refine gate_callee (f := 13) rfl ?_); refine goesL_ (some 45) rfl rfl Try.func13 (by kernel_rfl) rfl #[.agg #[.slice Ao57 t234.length co57], .agg #[.slice Ao40 t221.length co40]] rfl (by (try simp only [List.map_toArray, List.map_cons, List.map_nil]); first | done | rfl) ?_; (with_reducible refine (laws_eqDisk.calls k _ _ t234 _ _ t221 true _ ?side1 ?side2 ?side3 ?side4 A59.out).mono ?_); (case side1 => refine (Kd.R_reads' (e := 67) (base := w.heap.size) (ok := fun k_ => (some k_ ≠ (v215 : Value).ownBlock ∧ (some k_ ≠ (.slice Ao40 t221.length co40 : Value).ownBlock ∧ some k_ ≠ (.slice Ao46 t226.length co46 : Value).ownBlock))) (n := t234.length) (c := co57) ?_).2.2; exact (by exact (Kd.R_mono (Kd.R_far (p := ⟨gb238, 0, none⟩) (Kd.R_types HO236.out BK238.out (by decide)) (fun _ hk => hk.2) (.slice Ao57 t234.length co57)) (fun _ h_ => h_.1)))); (case side2 => exact (Kd.R_reads' HO236.out).2.1); (case side3 => refine (Kd.R_reads' (e := 67) (base := w.heap.size) (ok := fun k_ => (some k_ ≠ (v215 : Value).ownBlock ∧ (some k_ ≠ (.slice Ao46 t226.length co46 : Value).ownBlock ∧ some k_ ≠ (.slice Ao57 t234.length co57 : Value).ownBlock))) (n := t221.length) (c := co40) ?_).2.2; exact (by exact (Kd.R_mono (Kd.R_far (p := ⟨gb238, 0, none⟩) (Kd.R_types HO223.out BK238.out (by decide)) (fun _ hk => hk.2) (.slice Ao57 t234.length co57)) (fun _ h_ => h_.1)))); (case side4 => exact (Kd.R_reads' HO223.out).2.1); rintro e w70 ⟨rfl, hb⟩; refine ⟨_, rfl, ?_⟩; have n0_ := AM (Kd.R_below (by exact (Kd.R_mono (Kd.R_far (p := ⟨gb238, 0, none⟩) (Kd.R_types HO216.out BK238.out (by decide)) (fun _ hk => hk.2) (.slice Ao57 t234.length co57)) (fun _ h_ => h_.1))) hb); have n1_ := AM (Kd.R_below (by exact (Kd.R_mono (Kd.R_far (p := ⟨gb238, 0, none⟩) (Kd.R_types HO223.out BK238.out (by decide)) (fun _ hk => hk.2) (.slice Ao57 t234.length co57)) (fun _ h_ => h_.1))) hb); have n2_ := AM (Kd.R_below (by exact (Kd.R_mono (Kd.R_far (p := ⟨gb238, 0, none⟩) (Kd.R_types HO228.out BK238.out (by decide)) (fun _ hk => hk.2) (.slice Ao57 t234.length co57)) (fun _ h_ => h_.1))) hb); have n3_ := AM (Kd.R_below (by exact (Kd.R_mono (Kd.R_far (p := ⟨gb238, 0, none⟩) (Kd.R_types HO236.out BK238.out (by decide)) (fun _ hk => hk.2) (.slice Ao57 t234.length co57)) (fun _ h_ => h_.1))) hb); have n4_ := AM (blk_below (g := gb210) (o := .cells #[.slice A0_0 l0_0.length c0_0] 24 (0, 0)) (by (with_reducible repeat (first | refine blk_drewN ?_ _ | refine blk_drew ?_ | refine blk_alloc ?_ _)); refine blk_far ?_ NB210_238.out _; (with_reducible repeat (first | refine blk_drewN ?_ _ | refine blk_drew ?_ | refine blk_alloc ?_ _)); exact BK210.out) hb); have n5_ := AM (blk_below (g := gb211) (o := .cells #[.int .i64 a1_0, .string a1_1, .string a1_2, .string a1_3] 37 (0, 0)) (by (with_reducible repeat (first | refine blk_drewN ?_ _ | refine blk_drew ?_ | refine blk_alloc ?_ _)); refine blk_far ?_ NB211_238.out _; (with_reducible repeat (first | refine blk_drewN ?_ _ | refine blk_drew ?_ | refine blk_alloc ?_ _)); exact BK211.out) hb); have n6_ := AM (blk_below (g := gb225) (o := .cells #[.slice Ao40 t221.length co40] 30 (0, 0)) (by (with_reducible repeat (first | refine blk_drewN ?_ _ | refine blk_drew ?_ | refine blk_alloc ?_ _)); refine blk_far ?_ NB225_238.out _; (with_reducible repeat (first | refine blk_drewN ?_ _ | refine blk_drew ?_ | refine blk_alloc ?_ _)); exact BK225.out) hb); have n7_ := AM (blk_below (g := gb229) (o := .cells #[.slice Ao46 t226.length co46] 30 (0, 0)) (by (with_reducible repeat (first | refine blk_drewN ?_ _ | refine blk_drew ?_ | refine blk_alloc ?_ _)); refine blk_far ?_ NB229_238.out _; (with_reducible repeat (first | refine blk_drewN ?_ _ | refine blk_drew ?_ | refine blk_alloc ?_ _)); exact BK229.out) hb); have n8_ := AM (blk_below (g := gb238) (o := .cells #[.slice Ao57 t234.length co57] 30 (0, 0)) (by (with_reducible repeat (first | refine blk_drewN ?_ _ | refine blk_drew ?_ | refine blk_alloc ?_ _)); refine blk_put (cs := #[.slice none 0 0]) ?_ 0 _ rfl; (with_reducible repeat (first | refine blk_drewN ?_ _ | refine blk_drew ?_ | refine blk_alloc ?_ _)); exact BK238.out) hb); have n9_ := AM (below_step (hS) hb); clear HO216; clear HO223; clear HO228; clear HO236; clear BK210; clear BK211; clear BK225; clear BK229; clear BK238; clear HB; have HO216 := n0_; have HO223 := n1_; have HO228 := n2_; have HO236 := n3_; have BK210 := n4_; have BK211 := n5_; have BK225 := n6_; have BK229 := n7_; have BK238 := n8_; have HB := n9_; clear n0_ n1_ n2_ n3_ n4_ n5_ n6_ n7_ n8_ n9_; (try clear hb); (try clear hk)))
   go_meet
   case rel => exact ⟨_, ((t237 != t224)), (by first | rfl | (simp; done) | (simp [*]; done)), H', ⟨by first | omega | exact Nat.le_refl _⟩, ⟨by exact Kd.R_mono HO223.out (fun _ hk => ⟨hk.2.1, hk.2.2⟩)⟩, ⟨by exact Kd.R_mono HO228.out (fun _ hk => ⟨hk.2.1, hk.2.2⟩)⟩, ⟨by exact Kd.R_mono HO236.out (fun _ hk => ⟨hk.2.1, hk.2.2⟩)⟩, ⟨bk BK210⟩, ⟨bk BK211⟩, ⟨bk BK225⟩, ⟨bk BK229⟩, ⟨bk BK238⟩, ⟨hS⟩⟩
  replace c60 := Bool.eq_false_iff.mpr c60
  subst c60
  have H1 : (laws_FnExactDoAct.j0 k t224 t237 true l0_0 a1_0 a1_1 a1_2 a1_3 t221 t226 t234) = some r := by rw [if_neg (show ¬ (false = true) by decide)] at H; exact H
  clear H
  have H := H1
  clear H1
  have H' := AM H
  clear H
  have hnb71 := NB238_210.out
  have hnc71 := NB210_238.out
  have hnb72 := NB238_211.out
  have hnc72 := NB211_238.out
  have hnb73 := NB238_225.out
  have hnc73 := NB225_238.out
  have hnb74 := NB238_229.out
  have hnc74 := NB229_238.out
  have hcz75_0 : w56.cell? ⟨gb238, 0, none⟩ = some (.slice none 0 0) := (blk_cell BK238.out 0).trans rfl
  have hfz75_0 := blk_frozen BK238.out 0
  have hnb76 := NB225_210.out
  have hnc76 := NB210_225.out
  have hnb77 := NB225_211.out
  have hnc77 := NB211_225.out
  have hnb78 := NB225_229.out
  have hnc78 := NB229_225.out
  have hcz79_0 : w56.cell? ⟨gb225, 0, none⟩ = some (.slice Ao40 t221.length co40) := (blk_cell BK225.out 0).trans rfl
  have hfz79_0 := blk_frozen BK225.out 0
  go_wp2_with (first | ((with_reducible refine gate_callee (f := 13) rfl ?_); refine goesL_ (some 45) rfl rfl Try.func13 (by kernel_rfl) rfl #[.agg #[.slice Ao57 t234.length co57], .agg #[.slice Ao40 t221.length co40]] rfl (by (try simp only [List.map_toArray, List.map_cons, List.map_nil]); first | done | rfl) ?_; (with_reducible refine (laws_eqDisk.calls k _ _ t234 _ _ t221 false _ ?side1 ?side2 ?side3 ?side4 A59.out).mono ?_); (case side1 => refine (Kd.R_reads' (e := 67) (base := w.heap.size) (ok := fun k_ => (some k_ ≠ (v215 : Value).ownBlock ∧ (some k_ ≠ (.slice Ao40 t221.length co40 : Value).ownBlock ∧ some k_ ≠ (.slice Ao46 t226.length co46 : Value).ownBlock))) (n := t234.length) (c := co57) ?_).2.2; exact (by exact (Kd.R_mono (Kd.R_far (p := ⟨gb238, 0, none⟩) (Kd.R_types HO236.out BK238.out (by decide)) (fun _ hk => hk.2) (.slice Ao57 t234.length co57)) (fun _ h_ => h_.1)))); (case side2 => exact (Kd.R_reads' HO236.out).2.1); (case side3 => refine (Kd.R_reads' (e := 67) (base := w.heap.size) (ok := fun k_ => (some k_ ≠ (v215 : Value).ownBlock ∧ (some k_ ≠ (.slice Ao46 t226.length co46 : Value).ownBlock ∧ some k_ ≠ (.slice Ao57 t234.length co57 : Value).ownBlock))) (n := t221.length) (c := co40) ?_).2.2; exact (by exact (Kd.R_mono (Kd.R_far (p := ⟨gb238, 0, none⟩) (Kd.R_types HO223.out BK238.out (by decide)) (fun _ hk => hk.2) (.slice Ao57 t234.length co57)) (fun _ h_ => h_.1)))); (case side4 => exact (Kd.R_reads' HO223.out).2.1); rintro e w80 ⟨rfl, hb⟩; refine ⟨_, rfl, ?_⟩; have n0_ := AM (Kd.R_below (by exact (Kd.R_mono (Kd.R_far (p := ⟨gb238, 0, none⟩) (Kd.R_types HO216.out BK238.out (by decide)) (fun _ hk => hk.2) (.slice Ao57 t234.length co57)) (fun _ h_ => h_.1))) hb); have n1_ := AM (Kd.R_below (by exact (Kd.R_mono (Kd.R_far (p := ⟨gb238, 0, none⟩) (Kd.R_types HO223.out BK238.out (by decide)) (fun _ hk => hk.2) (.slice Ao57 t234.length co57)) (fun _ h_ => h_.1))) hb); have n2_ := AM (Kd.R_below (by exact (Kd.R_mono (Kd.R_far (p := ⟨gb238, 0, none⟩) (Kd.R_types HO228.out BK238.out (by decide)) (fun _ hk => hk.2) (.slice Ao57 t234.length co57)) (fun _ h_ => h_.1))) hb); have n3_ := AM (Kd.R_below (by exact (Kd.R_mono (Kd.R_far (p := ⟨gb238, 0, none⟩) (Kd.R_types HO236.out BK238.out (by decide)) (fun _ hk => hk.2) (.slice Ao57 t234.length co57)) (fun _ h_ => h_.1))) hb); have n4_ := AM (blk_below (g := gb210) (o := .cells #[.slice A0_0 l0_0.length c0_0] 24 (0, 0)) (by (with_reducible repeat (first | refine blk_drewN ?_ _ | refine blk_drew ?_ | refine blk_alloc ?_ _)); refine blk_far ?_ NB210_238.out _; (with_reducible repeat (first | refine blk_drewN ?_ _ | refine blk_drew ?_ | refine blk_alloc ?_ _)); exact BK210.out) hb); have n5_ := AM (blk_below (g := gb211) (o := .cells #[.int .i64 a1_0, .string a1_1, .string a1_2, .string a1_3] 37 (0, 0)) (by (with_reducible repeat (first | refine blk_drewN ?_ _ | refine blk_drew ?_ | refine blk_alloc ?_ _)); refine blk_far ?_ NB211_238.out _; (with_reducible repeat (first | refine blk_drewN ?_ _ | refine blk_drew ?_ | refine blk_alloc ?_ _)); exact BK211.out) hb); have n6_ := AM (blk_below (g := gb225) (o := .cells #[.slice Ao40 t221.length co40] 30 (0, 0)) (by (with_reducible repeat (first | refine blk_drewN ?_ _ | refine blk_drew ?_ | refine blk_alloc ?_ _)); refine blk_far ?_ NB225_238.out _; (with_reducible repeat (first | refine blk_drewN ?_ _ | refine blk_drew ?_ | refine blk_alloc ?_ _)); exact BK225.out) hb); have n7_ := AM (blk_below (g := gb229) (o := .cells #[.slice Ao46 t226.length co46] 30 (0, 0)) (by (with_reducible repeat (first | refine blk_drewN ?_ _ | refine blk_drew ?_ | refine blk_alloc ?_ _)); refine blk_far ?_ NB229_238.out _; (with_reducible repeat (first | refine blk_drewN ?_ _ | refine blk_drew ?_ | refine blk_alloc ?_ _)); exact BK229.out) hb); have n8_ := AM (blk_below (g := gb238) (o := .cells #[.slice Ao57 t234.length co57] 30 (0, 0)) (by (with_reducible repeat (first | refine blk_drewN ?_ _ | refine blk_drew ?_ | refine blk_alloc ?_ _)); refine blk_put (cs := #[.slice none 0 0]) ?_ 0 _ rfl; (with_reducible repeat (first | refine blk_drewN ?_ _ | refine blk_drew ?_ | refine blk_alloc ?_ _)); exact BK238.out) hb); have n9_ := AM (below_step (hS) hb); clear HO216; clear HO223; clear HO228; clear HO236; clear BK210; clear BK211; clear BK225; clear BK229; clear BK238; clear HB; have HO216 := n0_; have HO223 := n1_; have HO228 := n2_; have HO236 := n3_; have BK210 := n4_; have BK211 := n5_; have BK225 := n6_; have BK229 := n7_; have BK238 := n8_; have HB := n9_; clear n0_ n1_ n2_ n3_ n4_ n5_ n6_ n7_ n8_ n9_; (try clear hb); (try clear hb2); (try clear hk); (try clear hi)))
  go_meet
  case rel => exact ⟨_, (true), (by first | rfl | (simp; done) | (simp [*]; done)), H', ⟨by first | omega | exact Nat.le_refl _⟩, ⟨by exact Kd.R_mono HO223.out (fun _ hk => ⟨hk.2.1, hk.2.2⟩)⟩, ⟨by exact Kd.R_mono HO228.out (fun _ hk => ⟨hk.2.1, hk.2.2⟩)⟩, ⟨by exact Kd.R_mono HO236.out (fun _ hk => ⟨hk.2.1, hk.2.2⟩)⟩, ⟨bk BK210⟩, ⟨bk BK211⟩, ⟨bk BK225⟩, ⟨bk BK229⟩, ⟨bk BK238⟩, ⟨hS⟩⟩
 case rest =>
  clear HC25
  obtain ⟨kq, x51_24, rfl, HA, HJ24, HO_226000, HO_230000, HO_239000, BK210, BK211, BK225, BK229, BK238, HB⟩ := hcut
  cases kq with
  | zero => exact absurd HA.out (by simp [laws_FnExactDoAct.j0])
  | succ kj24 =>
   have H := HA.out
   clear HA
   simp only [laws_FnExactDoAct.j0] at H
   by_cases c81 : x51_24 = true
   ·subst c81
    have H1 : (some false) = some r := by rw [if_pos rfl] at H; exact H
    clear H
    have H := H1
    clear H1
    exact absurd ((Option.some.inj H).trans hT.out) (by decide)
   replace c81 := Bool.eq_false_iff.mpr c81
   subst c81
   have H1 : ((laws_toDisk.f kj24 l0_0).bind fun t240 => ((laws_eqDisk.f kj24 t226 t240).bind fun t243 => (if t243 = true then ((laws_markDisk.f kj24 t226 1).bind fun bt244 => (if bt244.1 < 0 then (laws_FnExactDoAct.j1 kj24 t224 true l0_0 a1_0 a1_1 a1_2 a1_3 t221 t234) else ((laws_eqDisk.f kj24 t234 t221).bind fun t246 => (if t246 = true then (laws_FnExactDoAct.j1 kj24 t224 (t237 != t224) l0_0 a1_0 a1_1 a1_2 a1_3 t221 t234) else (laws_FnExactDoAct.j1 kj24 t224 true l0_0 a1_0 a1_1 a1_2 a1_3 t221 t234))))) else (some false)))) = some r := by rw [if_neg (show ¬ (false = true) by decide)] at H; exact H
   clear H
   have H := H1
   clear H1
   replace H := bm H
   obtain ⟨t240, A820, H⟩ := H
   replace H : ((laws_eqDisk.f kj24 t226 t240).bind fun t243 => (if t243 = true then ((laws_markDisk.f kj24 t226 1).bind fun bt244 => (if bt244.1 < 0 then (laws_FnExactDoAct.j1 kj24 t224 true l0_0 a1_0 a1_1 a1_2 a1_3 t221 t234) else ((laws_eqDisk.f kj24 t234 t221).bind fun t246 => (if t246 = true then (laws_FnExactDoAct.j1 kj24 t224 (t237 != t224) l0_0 a1_0 a1_1 a1_2 a1_3 t221 t234) else (laws_FnExactDoAct.j1 kj24 t224 true l0_0 a1_0 a1_1 a1_2 a1_3 t221 t234))))) else (some false))) = some r := H
   have A82 := AM A820
   clear A820
   replace H := bm H
   obtain ⟨t243, A830, H⟩ := H
   replace H : (if t243 = true then ((laws_markDisk.f kj24 t226 1).bind fun bt244 => (if bt244.1 < 0 then (laws_FnExactDoAct.j1 kj24 t224 true l0_0 a1_0 a1_1 a1_2 a1_3 t221 t234) else ((laws_eqDisk.f kj24 t234 t221).bind fun t246 => (if t246 = true then (laws_FnExactDoAct.j1 kj24 t224 (t237 != t224) l0_0 a1_0 a1_1 a1_2 a1_3 t221 t234) else (laws_FnExactDoAct.j1 kj24 t224 true l0_0 a1_0 a1_1 a1_2 a1_3 t221 t234))))) else (some false)) = some r := H
   have A83 := AM A830
   clear A830
   by_cases c84 : t243 = true
   ·subst c84
    have H1 : ((laws_markDisk.f kj24 t226 1).bind fun bt244 => (if bt244.1 < 0 then (laws_FnExactDoAct.j1 kj24 t224 true l0_0 a1_0 a1_1 a1_2 a1_3 t221 t234) else ((laws_eqDisk.f kj24 t234 t221).bind fun t246 => (if t246 = true then (laws_FnExactDoAct.j1 kj24 t224 (t237 != t224) l0_0 a1_0 a1_1 a1_2 a1_3 t221 t234) else (laws_FnExactDoAct.j1 kj24 t224 true l0_0 a1_0 a1_1 a1_2 a1_3 t221 t234))))) = some r := by rw [if_pos rfl] at H; exact H
    clear H
    have H := H1
    clear H1
    replace H := bm H
    obtain ⟨⟨t244, t245⟩, A850, H⟩ := H
    replace H : (if t244 < 0 then (laws_FnExactDoAct.j1 kj24 t224 true l0_0 a1_0 a1_1 a1_2 a1_3 t221 t234) else ((laws_eqDisk.f kj24 t234 t221).bind fun t246 => (if t246 = true then (laws_FnExactDoAct.j1 kj24 t224 (t237 != t224) l0_0 a1_0 a1_1 a1_2 a1_3 t221 t234) else (laws_FnExactDoAct.j1 kj24 t224 true l0_0 a1_0 a1_1 a1_2 a1_3 t221 t234)))) = some r := H
    have A85 := AM A850
    clear A850
    have HC86 := AM H
    clear H
    try go_wp2
    have n0_ := AM (Kd.R_drew HO_226000.out)
    have n1_ := AM (Kd.R_drew HO_230000.out)
    have n2_ := AM (Kd.R_drew HO_239000.out)
    have n3_ := AM (blk_drew BK210.out)
    have n4_ := AM (blk_drew BK211.out)
    have n5_ := AM (blk_drew BK225.out)
    have n6_ := AM (blk_drew BK229.out)
    have n7_ := AM (blk_drew BK238.out)
    have n8_ := AM (below_drew1 HB.out)
    clear HO_226000
    clear HO_230000
    clear HO_239000
    clear BK210
    clear BK211
    clear BK225
    clear BK229
    clear BK238
    clear HB
    have HO_226000 := n0_
    have HO_230000 := n1_
    have HO_239000 := n2_
    have BK210 := n3_
    have BK211 := n4_
    have BK225 := n5_
    have BK229 := n6_
    have BK238 := n7_
    have HB := n8_
    clear n0_ n1_ n2_ n3_ n4_ n5_ n6_ n7_ n8_
    refine start_ (n := 5) (S := fun w' => w'.cell? ⟨gb229, 0, none⟩ = some (.slice Ao46 t226.length co46) ∧ w'.cell? ⟨gb210, 0, none⟩ = some (.slice A0_0 l0_0.length c0_0)) (ds := []) #[false, false, false, false, false] (by kernel_rfl) rfl rfl ⟨(blk_cell BK229.out 0).trans rfl, (blk_cell BK210.out 0).trans rfl⟩ (fun hHeld => ?_)
    generalize wc.drew = w87 at HO_226000 HO_230000 HO_239000 BK210 BK211 BK225 BK229 BK238 HB hHeld ⊢
    refine take_ (i := 0) (N := some 52) (v := ?_) (a' := ?_) #[true, false, false, false, false] rfl rfl (by kernel_rfl) (fun _ _ _ h => h) (Or.inl ⟨by rfl, ?_⟩) hHeld ?_ ?_
    rotate_left
    ·rintro w' ⟨s0, s1⟩
     go_simp
     with_reducible rfl
    rotate_left
    ·simp only [Act.put, qT, q0, qS, i64_w, i32_w]
     rfl
    refine take_ (i := 1) (N := some 53) (v := ?_) (a' := ?_) #[true, true, false, false, false] rfl rfl (by kernel_rfl) (fun _ _ _ h => h) (Or.inl ⟨by rfl, ?_⟩) hHeld ?_ ?_
    rotate_left
    ·rintro w' ⟨s0, s1⟩
     go_simp
     with_reducible rfl
    rotate_left
    ·simp only [Act.put, qT, q0, qS, i64_w, i32_w]
     rfl
    refine one_ (i := 2) (N := some 54) #[true, true, true, false, false] rfl rfl (by kernel_rfl) (by decide) (fun K hK => ?_)
    refine goes_ Try.func11 (by kernel_rfl) rfl #[.agg #[.slice A0_0 l0_0.length c0_0]] (by rfl) rfl rfl (by (try simp only [List.map_toArray, List.map_cons, List.map_nil]); first | done | rfl) ?_
    with_reducible refine (laws_toDisk.calls kj24 _ _ l0_0 t240 _ ?side1 ?side2 A82.out).mono ?_
    (case side1 => repeat (first | exact (Kd.C_below HR0_0.out HB.out) | (with_reducible refine Kd.C_alloc ?_ _) | (with_reducible refine Kd.C_drewN ?_ _) | (with_reducible refine Kd.C_drew ?_)))
    (case side2 => exact HC0_0.out)
    rintro e w88 ⟨v241, rfl, ho0, hb⟩
    refine ⟨_, rfl, ?_⟩
    have n0_ := AM (Kd.R_elder' (by exact HO_226000.out) (Kd.R_base ho0) hb)
    have n1_ := AM (Kd.R_elder' (by exact HO_230000.out) (Kd.R_base ho0) hb)
    have n2_ := AM (Kd.R_elder' (by exact HO_239000.out) (Kd.R_base ho0) hb)
    have n3_ := AM (Kd.R_lower (Kd.R_new' (Kd.R_new' (Kd.R_new' ho0 (Kd.R_lt (by exact HO_226000.out))) (Kd.R_lt (by exact HO_230000.out))) (Kd.R_lt (by exact HO_239000.out))) (below_size (hS)))
    have n4_ := AM (blk_below (g := gb210) (o := .cells #[.slice A0_0 l0_0.length c0_0] 24 (0, 0)) (bk BK210) hb)
    have n5_ := AM (blk_below (g := gb211) (o := .cells #[.int .i64 a1_0, .string a1_1, .string a1_2, .string a1_3] 37 (0, 0)) (bk BK211) hb)
    have n6_ := AM (blk_below (g := gb225) (o := .cells #[.slice Ao40 t221.length co40] 30 (0, 0)) (bk BK225) hb)
    have n7_ := AM (blk_below (g := gb229) (o := .cells #[.slice Ao46 t226.length co46] 30 (0, 0)) (bk BK229) hb)
    have n8_ := AM (blk_below (g := gb238) (o := .cells #[.slice Ao57 t234.length co57] 30 (0, 0)) (bk BK238) hb)
    have n9_ := AM (below_step (hS) hb)
    clear HO_226000
    clear HO_230000
    clear HO_239000
    clear BK210
    clear BK211
    clear BK225
    clear BK229
    clear BK238
    clear HB
    have HO_226000 := n0_
    have HO_230000 := n1_
    have HO_239000 := n2_
    have HO242 := n3_
    have BK210 := n4_
    have BK211 := n5_
    have BK225 := n6_
    have BK229 := n7_
    have BK238 := n8_
    have HB := n9_
    clear n0_ n1_ n2_ n3_ n4_ n5_ n6_ n7_ n8_ n9_
    (try clear hb)
    (try clear hb2)
    (try clear hk)
    (try clear hi)
    (try clear ho0)
    obtain ⟨Ao89, co89, eo89⟩ := Kd.R_slice HO242.out
    (first | subst eo89 | (injection eo89 with f1_ f2_ f3_; have f4_ := f1_.symm; have f5_ := f3_.symm; clear f1_ f2_ f3_; subst f4_; subst f5_))
    refine hK.out _ _ ⟨(blk_cell BK229.out 0).trans rfl, (blk_cell BK210.out 0).trans rfl⟩ (fun hHeld => ?_)
    clear hK K
    refine norm_ (a' := ?_) ?_ ?_
    rotate_left
    ·show Act.put _ (some 54) _ = _
     simp only [Act.put, qT, q0, qS, i64_w, i32_w]
     rfl
    refine one_ (i := 3) (N := some 55) #[true, true, true, true, false] rfl rfl (by kernel_rfl) (by decide) (fun K hK => ?_)
    refine goes_ Try.func13 (by kernel_rfl) rfl #[.agg #[.slice Ao46 t226.length co46], .agg #[.slice Ao89 t240.length co89]] (by rfl) rfl rfl (by (try simp only [List.map_toArray, List.map_cons, List.map_nil]); first | done | rfl) ?_
    with_reducible refine (laws_eqDisk.calls kj24 _ _ t226 _ _ t240 true _ ?side1 ?side2 ?side3 ?side4 A83.out).mono ?_
    (case side1 => repeat (first | exact (Kd.R_reads' HO_230000.out).2.2 | (with_reducible refine Kd.C_alloc ?_ _) | (with_reducible refine Kd.C_drewN ?_ _) | (with_reducible refine Kd.C_drew ?_)))
    (case side2 => exact (Kd.R_reads' HO_230000.out).2.1)
    (case side3 => repeat (first | exact (Kd.R_reads' HO242.out).2.2 | (with_reducible refine Kd.C_alloc ?_ _) | (with_reducible refine Kd.C_drewN ?_ _) | (with_reducible refine Kd.C_drew ?_)))
    (case side4 => exact (Kd.R_reads' HO242.out).2.1)
    rintro e w90 ⟨rfl, hb⟩
    refine ⟨_, rfl, ?_⟩
    have n0_ := AM (Kd.R_below (by exact HO_226000.out) hb)
    have n1_ := AM (Kd.R_below (by exact HO_230000.out) hb)
    have n2_ := AM (Kd.R_below (by exact HO_239000.out) hb)
    have n3_ := AM (Kd.R_below (by exact HO242.out) hb)
    have n4_ := AM (blk_below (g := gb210) (o := .cells #[.slice A0_0 l0_0.length c0_0] 24 (0, 0)) (bk BK210) hb)
    have n5_ := AM (blk_below (g := gb211) (o := .cells #[.int .i64 a1_0, .string a1_1, .string a1_2, .string a1_3] 37 (0, 0)) (bk BK211) hb)
    have n6_ := AM (blk_below (g := gb225) (o := .cells #[.slice Ao40 t221.length co40] 30 (0, 0)) (bk BK225) hb)
    have n7_ := AM (blk_below (g := gb229) (o := .cells #[.slice Ao46 t226.length co46] 30 (0, 0)) (bk BK229) hb)
    have n8_ := AM (blk_below (g := gb238) (o := .cells #[.slice Ao57 t234.length co57] 30 (0, 0)) (bk BK238) hb)
    have n9_ := AM (below_step (hS) hb)
    clear HO_226000
    clear HO_230000
    clear HO_239000
    clear HO242
    clear BK210
    clear BK211
    clear BK225
    clear BK229
    clear BK238
    clear HB
    have HO_226000 := n0_
    have HO_230000 := n1_
    have HO_239000 := n2_
    have HO242 := n3_
    have BK210 := n4_
    have BK211 := n5_
    have BK225 := n6_
    have BK229 := n7_
    have BK238 := n8_
    have HB := n9_
    clear n0_ n1_ n2_ n3_ n4_ n5_ n6_ n7_ n8_ n9_
    (try clear hb)
    (try clear hb2)
    (try clear hk)
    (try clear hi)
    refine hK.out _ _ ⟨(blk_cell BK229.out 0).trans rfl, (blk_cell BK210.out 0).trans rfl⟩ (fun hHeld => ?_)
    clear hK K
    refine norm_ (a' := ?_) ?_ ?_
    rotate_left
    ·show Act.put _ (some 55) _ = _
     simp only [Act.put, qT, q0, qS, i64_w, i32_w]
     rfl
    refine pure_ (i := 4) (N := some 56) (v := ?_) (a' := ?_) #[true, true, true, true, true] rfl rfl (by kernel_rfl) (fun _ _ _ h => h) (Or.inl ⟨by rfl, ?_⟩) ?_ ?_
    rotate_left
    ·intro w'
     go_simp
     with_reducible rfl
    rotate_left
    ·simp only [Act.put, qT, q0, qS, i64_w, i32_w]
     rfl
    refine done_ (by kernel_rfl) ?_
    have hnb91 := NB229_210.out
    have hnc91 := NB210_229.out
    have hnb92 := NB229_211.out
    have hnc92 := NB211_229.out
    have hnb93 := NB229_225.out
    have hnc93 := NB225_229.out
    have hnb94 := NB229_238.out
    have hnc94 := NB238_229.out
    have hcz95_0 : w90.cell? ⟨gb229, 0, none⟩ = some (.slice Ao46 t226.length co46) := (blk_cell BK229.out 0).trans rfl
    have hfz95_0 := blk_frozen BK229.out 0
    go_upto_region 17 with (first | ((with_reducible refine gate_callee (f := 20) rfl ?_); refine goesL_ (some 59) rfl rfl Try.func20 (by kernel_rfl) rfl #[.agg #[.slice Ao46 t226.length co46], .int .i64 1] rfl (by (try simp only [List.map_toArray, List.map_cons, List.map_nil]); first | done | rfl) ?_; (with_reducible refine (laws_markDisk.calls kj24 (fun k_ => some k_ = (.slice Ao46 t226.length co46 : Value).ownBlock) (.slice Ao46 t226.length co46) t226 1 t244 t245 w _ ?side1 ?side2 A85.out).mono ?_); (case side1 => repeat (first | (with_reducible first | exact HB.out | apply bA | apply bN | apply bD | refine below_set ?_ GE210.out | refine below_set ?_ GE211.out | refine below_set ?_ GE225.out | refine below_set ?_ GE229.out | refine below_set ?_ GE238.out) | exact HB.out)); (case side2 => exact Kd.R_tight rfl HO_230000.out); rintro e w96 ⟨rfl, hy0, hb, hkp⟩; refine ⟨_, rfl, ?_⟩; have n0_ := AM (Kd.R_mono (ok' := fun k_ => some k_ ≠ (.slice Ao46 t226.length co46 : Value).ownBlock ∧ some k_ ≠ (.slice Ao57 t234.length co57 : Value).ownBlock ∧ some k_ ≠ (.slice Ao89 t240.length co89 : Value).ownBlock) (Kd.R_keptB (HO_226000.out) hkp (fun k_ hk_ hs_ => (hk_.1.1) hs_)) (fun k_ hk_ => ⟨hk_.1.1.1, hk_.1.1.2, hk_.1.2⟩)); have n1_ := AM (Kd.R_reok rfl hy0 (fun k_ e_ => HO_230000.out.1 k_ e_)); have n2_ := AM (Kd.R_mono (ok' := fun k_ => some k_ ≠ (.slice Ao40 t221.length co40 : Value).ownBlock ∧ some k_ ≠ (.slice Ao46 t226.length co46 : Value).ownBlock ∧ some k_ ≠ (.slice Ao89 t240.length co89 : Value).ownBlock) (Kd.R_keptB (HO_239000.out) hkp (fun k_ hk_ hs_ => (hk_.1.2) hs_)) (fun k_ hk_ => ⟨hk_.1.1.1, hk_.1.1.2, hk_.1.2⟩)); have n3_ := AM (blk_kept (bk BK210) hkp (fun hs_ => (fun e_ => (Kd.R_ne HO_230000.out BK210.out (by decide)) e_) hs_)); have n4_ := AM (blk_kept (bk BK211) hkp (fun hs_ => (fun e_ => (Kd.R_ne HO_230000.out BK211.out (by decide)) e_) hs_)); have n5_ := AM (blk_kept (bk BK225) hkp (fun hs_ => (fun e_ => (Kd.R_ne HO_230000.out BK225.out (by decide)) e_) hs_)); have n6_ := AM (blk_kept (bk BK229) hkp (fun hs_ => (fun e_ => (Kd.R_ne HO_230000.out BK229.out (by decide)) e_) hs_)); have n7_ := AM (blk_kept (bk BK238) hkp (fun hs_ => (fun e_ => (Kd.R_ne HO_230000.out BK238.out (by decide)) e_) hs_)); have n8_ := AM (Kd.R_mono (ok' := fun k_ => some k_ ≠ (.slice Ao40 t221.length co40 : Value).ownBlock ∧ some k_ ≠ (.slice Ao46 t226.length co46 : Value).ownBlock ∧ some k_ ≠ (.slice Ao57 t234.length co57 : Value).ownBlock) (Kd.R_keptB (HO242.out) hkp (fun k_ hk_ hs_ => (hk_.1.2) hs_)) (fun k_ hk_ => ⟨hk_.1.1.1.2, hk_.1.1.2, hk_.1.2⟩)); have n9_ := AM (hb); clear HO_226000; clear HO_230000; clear HO_239000; clear BK210; clear BK211; clear BK225; clear BK229; clear BK238; clear HO242; clear HB; have HO_226000 := n0_; have HO_230000 := n1_; have HO_239000 := n2_; have BK210 := n3_; have BK211 := n4_; have BK225 := n5_; have BK229 := n6_; have BK238 := n7_; have HO242 := n8_; have HB := n9_; clear n0_ n1_ n2_ n3_ n4_ n5_ n6_ n7_ n8_ n9_; (try clear hb); (try clear hkp); (try clear hy0)))
    (try simp only [Act.put, qT, q0, qS])
    go_cut [72] (fun v72 wc => ∃ (kq : Nat) (x72_85 : Bool), v72 = .bool x72_85 ∧ Aside0 (laws_FnExactDoAct.j1 kq t224 x72_85 l0_0 a1_0 a1_1 a1_2 a1_3 t221 t234 = some r) ∧ Aside0 (kq ≤ kj24) ∧ Aside0 (Kd.R k67 67 wc w.heap.size (fun k_ => some k_ ≠ ((.slice Ao46 t226.length co46) : Value).ownBlock ∧ some k_ ≠ ((.slice Ao57 t234.length co57) : Value).ownBlock) (.slice Ao40 t221.length co40) t221) ∧ Aside0 (Kd.R k67 67 wc w.heap.size (fun k_ => some k_ ≠ ((.slice Ao40 t221.length co40) : Value).ownBlock ∧ some k_ ≠ ((.slice Ao57 t234.length co57) : Value).ownBlock) (.slice Ao46 t226.length co46) t245) ∧ Aside0 (Kd.R k67 67 wc w.heap.size (fun k_ => some k_ ≠ ((.slice Ao40 t221.length co40) : Value).ownBlock ∧ some k_ ≠ ((.slice Ao46 t226.length co46) : Value).ownBlock) (.slice Ao57 t234.length co57) t234) ∧ Aside0 (wc.heap[gb210]? = some (.cells #[(.slice A0_0 l0_0.length c0_0)] 24 (0, 0))) ∧ Aside0 (wc.heap[gb211]? = some (.cells #[.int .i64 a1_0, .string a1_1, .string a1_2, .string a1_3] 37 (0, 0))) ∧ Aside0 (wc.heap[gb225]? = some (.cells #[(.slice Ao40 t221.length co40)] 30 (0, 0))) ∧ Aside0 (wc.heap[gb229]? = some (.cells #[(.slice Ao46 t226.length co46)] 30 (0, 0))) ∧ Aside0 (wc.heap[gb238]? = some (.cells #[(.slice Ao57 t234.length co57)] 30 (0, 0))) ∧ Aside0 (Below w.heap.size w wc))
    case first =>
     have H := HC86.out
     clear HC86
     by_cases c97 : t244 < 0
     ·rw [if_pos c97] at H
      have c97b0 : decide (t244 < 0) = true := decide_eq_true c97
      clear c97
      (first | rw [c97b0] | (simp only [i64_w, i32_w]; rw [c97b0]) | rw [c97b1] | skip)
      have H' := AM H
      clear H
      go_wp2
      go_meet
      case rel => exact ⟨_, (true), (by first | rfl | (simp; done) | (simp [*]; done)), H', ⟨by have := HJ24.out; first | omega | exact Nat.le_refl _⟩, ⟨by exact Kd.R_mono HO_226000.out (fun _ hk => ⟨hk.1, hk.2.1⟩)⟩, ⟨by exact Kd.R_mono HO_230000.out (fun _ hk => ⟨hk.1.1, hk.1.2⟩)⟩, ⟨by exact Kd.R_mono HO_239000.out (fun _ hk => ⟨hk.1, hk.2.1⟩)⟩, ⟨bk BK210⟩, ⟨bk BK211⟩, ⟨bk BK225⟩, ⟨bk BK229⟩, ⟨bk BK238⟩, ⟨hS⟩⟩
     rw [if_neg c97] at H
     have c97b0 : decide (t244 < 0) = false := decide_eq_false c97
     clear c97
     (first | rw [c97b0] | (simp only [i64_w, i32_w]; rw [c97b0]) | rw [c97b1] | skip)
     replace H := bm H
     obtain ⟨t246, A980, H⟩ := H
     replace H : (if t246 = true then (laws_FnExactDoAct.j1 kj24 t224 (t237 != t224) l0_0 a1_0 a1_1 a1_2 a1_3 t221 t234) else (laws_FnExactDoAct.j1 kj24 t224 true l0_0 a1_0 a1_1 a1_2 a1_3 t221 t234)) = some r := H
     have A98 := AM A980
     clear A980
     by_cases c99 : t246 = true
     ·subst c99
      have H1 : (laws_FnExactDoAct.j1 kj24 t224 (t237 != t224) l0_0 a1_0 a1_1 a1_2 a1_3 t221 t234) = some r := by rw [if_pos rfl] at H; exact H
      clear H
      have H := H1
      clear H1
      have H' := AM H
      clear H
      have hnb100 := NB238_210.out
      have hnc100 := NB210_238.out
      have hnb101 := NB238_211.out
      have hnc101 := NB211_238.out
      have hnb102 := NB238_225.out
      have hnc102 := NB225_238.out
      have hnb103 := NB238_229.out
      have hnc103 := NB229_238.out
      have hcz104_0 : w96.cell? ⟨gb238, 0, none⟩ = some (.slice Ao57 t234.length co57) := (blk_cell BK238.out 0).trans rfl
      have hfz104_0 := blk_frozen BK238.out 0
      have hnb105 := NB225_210.out
      have hnc105 := NB210_225.out
      have hnb106 := NB225_211.out
      have hnc106 := NB211_225.out
      have hnb107 := NB225_229.out
      have hnc107 := NB229_225.out
      have hcz108_0 : w96.cell? ⟨gb225, 0, none⟩ = some (.slice Ao40 t221.length co40) := (blk_cell BK225.out 0).trans rfl
      have hfz108_0 := blk_frozen BK225.out 0
      go_wp2_with (first | (go_at_call 13; (with_reducible refine (laws_eqDisk.calls kj24 _ _ t234 _ _ t221 true _ ?side1 ?side2 ?side3 ?side4 A98.out).mono ?_); (case side1 => repeat (first | exact (Kd.R_reads' HO_239000.out).2.2 | (with_reducible refine Kd.C_alloc ?_ _) | (with_reducible refine Kd.C_drewN ?_ _) | (with_reducible refine Kd.C_drew ?_))); (case side2 => exact (Kd.R_reads' HO_239000.out).2.1); (case side3 => repeat (first | exact (Kd.R_reads' HO_226000.out).2.2 | (with_reducible refine Kd.C_alloc ?_ _) | (with_reducible refine Kd.C_drewN ?_ _) | (with_reducible refine Kd.C_drew ?_))); (case side4 => exact (Kd.R_reads' HO_226000.out).2.1); rintro e w109 ⟨rfl, hb⟩; have n0_ := AM (Kd.R_below (by exact HO_226000.out) hb); have n1_ := AM (Kd.R_below (by exact HO_230000.out) hb); have n2_ := AM (Kd.R_below (by exact HO_239000.out) hb); have n3_ := AM (Kd.R_below (by exact HO242.out) hb); have n4_ := AM (blk_below (g := gb210) (o := .cells #[.slice A0_0 l0_0.length c0_0] 24 (0, 0)) (bk BK210) hb); have n5_ := AM (blk_below (g := gb211) (o := .cells #[.int .i64 a1_0, .string a1_1, .string a1_2, .string a1_3] 37 (0, 0)) (bk BK211) hb); have n6_ := AM (blk_below (g := gb225) (o := .cells #[.slice Ao40 t221.length co40] 30 (0, 0)) (bk BK225) hb); have n7_ := AM (blk_below (g := gb229) (o := .cells #[.slice Ao46 t226.length co46] 30 (0, 0)) (bk BK229) hb); have n8_ := AM (blk_below (g := gb238) (o := .cells #[.slice Ao57 t234.length co57] 30 (0, 0)) (bk BK238) hb); have n9_ := AM (below_step (hS) hb); clear HO_226000; clear HO_230000; clear HO_239000; clear HO242; clear BK210; clear BK211; clear BK225; clear BK229; clear BK238; clear HB; have HO_226000 := n0_; have HO_230000 := n1_; have HO_239000 := n2_; have HO242 := n3_; have BK210 := n4_; have BK211 := n5_; have BK225 := n6_; have BK229 := n7_; have BK238 := n8_; have HB := n9_; clear n0_ n1_ n2_ n3_ n4_ n5_ n6_ n7_ n8_ n9_; (try clear hb); (try clear hk)))
      go_meet
      case rel => exact ⟨_, ((t237 != t224)), (by first | rfl | (simp; done) | (simp [*]; done)), H', ⟨by have := HJ24.out; first | omega | exact Nat.le_refl _⟩, ⟨by exact Kd.R_mono HO_226000.out (fun _ hk => ⟨hk.1, hk.2.1⟩)⟩, ⟨by exact Kd.R_mono HO_230000.out (fun _ hk => ⟨hk.1.1, hk.1.2⟩)⟩, ⟨by exact Kd.R_mono HO_239000.out (fun _ hk => ⟨hk.1, hk.2.1⟩)⟩, ⟨bk BK210⟩, ⟨bk BK211⟩, ⟨bk BK225⟩, ⟨bk BK229⟩, ⟨bk BK238⟩, ⟨hS⟩⟩
     replace c99 := Bool.eq_false_iff.mpr c99
     subst c99
     have H1 : (laws_FnExactDoAct.j1 kj24 t224 true l0_0 a1_0 a1_1 a1_2 a1_3 t221 t234) = some r := by rw [if_neg (show ¬ (false = true) by decide)] at H; exact H
     clear H
     have H := H1
     clear H1
     have H' := AM H
     clear H
     have hnb110 := NB238_210.out
     have hnc110 := NB210_238.out
     have hnb111 := NB238_211.out
     have hnc111 := NB211_238.out
     have hnb112 := NB238_225.out
     have hnc112 := NB225_238.out
     have hnb113 := NB238_229.out
     have hnc113 := NB229_238.out
     have hcz114_0 : w96.cell? ⟨gb238, 0, none⟩ = some (.slice Ao57 t234.length co57) := (blk_cell BK238.out 0).trans rfl
     have hfz114_0 := blk_frozen BK238.out 0
     have hnb115 := NB225_210.out
     have hnc115 := NB210_225.out
     have hnb116 := NB225_211.out
     have hnc116 := NB211_225.out
     have hnb117 := NB225_229.out
     have hnc117 := NB229_225.out
     have hcz118_0 : w96.cell? ⟨gb225, 0, none⟩ = some (.slice Ao40 t221.length co40) := (blk_cell BK225.out 0).trans rfl
     have hfz118_0 := blk_frozen BK225.out 0
     go_wp2_with (first | (go_at_call 13; (with_reducible refine (laws_eqDisk.calls kj24 _ _ t234 _ _ t221 false _ ?side1 ?side2 ?side3 ?side4 A98.out).mono ?_); (case side1 => repeat (first | exact (Kd.R_reads' HO_239000.out).2.2 | (with_reducible refine Kd.C_alloc ?_ _) | (with_reducible refine Kd.C_drewN ?_ _) | (with_reducible refine Kd.C_drew ?_))); (case side2 => exact (Kd.R_reads' HO_239000.out).2.1); (case side3 => repeat (first | exact (Kd.R_reads' HO_226000.out).2.2 | (with_reducible refine Kd.C_alloc ?_ _) | (with_reducible refine Kd.C_drewN ?_ _) | (with_reducible refine Kd.C_drew ?_))); (case side4 => exact (Kd.R_reads' HO_226000.out).2.1); rintro e w119 ⟨rfl, hb⟩; have n0_ := AM (Kd.R_below (by exact HO_226000.out) hb); have n1_ := AM (Kd.R_below (by exact HO_230000.out) hb); have n2_ := AM (Kd.R_below (by exact HO_239000.out) hb); have n3_ := AM (Kd.R_below (by exact HO242.out) hb); have n4_ := AM (blk_below (g := gb210) (o := .cells #[.slice A0_0 l0_0.length c0_0] 24 (0, 0)) (bk BK210) hb); have n5_ := AM (blk_below (g := gb211) (o := .cells #[.int .i64 a1_0, .string a1_1, .string a1_2, .string a1_3] 37 (0, 0)) (bk BK211) hb); have n6_ := AM (blk_below (g := gb225) (o := .cells #[.slice Ao40 t221.length co40] 30 (0, 0)) (bk BK225) hb); have n7_ := AM (blk_below (g := gb229) (o := .cells #[.slice Ao46 t226.length co46] 30 (0, 0)) (bk BK229) hb); have n8_ := AM (blk_below (g := gb238) (o := .cells #[.slice Ao57 t234.length co57] 30 (0, 0)) (bk BK238) hb); have n9_ := AM (below_step (hS) hb); clear HO_226000; clear HO_230000; clear HO_239000; clear HO242; clear BK210; clear BK211; clear BK225; clear BK229; clear BK238; clear HB; have HO_226000 := n0_; have HO_230000 := n1_; have HO_239000 := n2_; have HO242 := n3_; have BK210 := n4_; have BK211 := n5_; have BK225 := n6_; have BK229 := n7_; have BK238 := n8_; have HB := n9_; clear n0_ n1_ n2_ n3_ n4_ n5_ n6_ n7_ n8_ n9_; (try clear hb); (try clear hk)))
     go_meet
     case rel => exact ⟨_, (true), (by first | rfl | (simp; done) | (simp [*]; done)), H', ⟨by have := HJ24.out; first | omega | exact Nat.le_refl _⟩, ⟨by exact Kd.R_mono HO_226000.out (fun _ hk => ⟨hk.1, hk.2.1⟩)⟩, ⟨by exact Kd.R_mono HO_230000.out (fun _ hk => ⟨hk.1.1, hk.1.2⟩)⟩, ⟨by exact Kd.R_mono HO_239000.out (fun _ hk => ⟨hk.1, hk.2.1⟩)⟩, ⟨bk BK210⟩, ⟨bk BK211⟩, ⟨bk BK225⟩, ⟨bk BK229⟩, ⟨bk BK238⟩, ⟨hS⟩⟩
    case rest =>
     clear HC86
     obtain ⟨kq, x72_85, rfl, HA, HJ85, HO_226000, HO_230000, HO_239000, BK210, BK211, BK225, BK229, BK238, HB⟩ := hcut
     have hl230000_85 := (Kd.R_reads' HO_230000.out).1
     rw [hl230000_85] at HO_230000
     (try simp only [hl230000_85])
     (try simp only [hl230000_85] at BK210)
     (try simp only [hl230000_85] at BK211)
     (try simp only [hl230000_85] at BK225)
     (try simp only [hl230000_85] at BK229)
     (try simp only [hl230000_85] at BK238)
     (try simp only [hl230000_85] at HO_226000)
     (try simp only [hl230000_85] at HO_239000)
     cases kq with
     | zero => exact absurd HA.out (by simp [laws_FnExactDoAct.j1])
     | succ kj85 =>
      have H := HA.out
      clear HA
      simp only [laws_FnExactDoAct.j1] at H
      by_cases c120 : x72_85 = true
      ·subst c120
       have H1 : (some false) = some r := by rw [if_pos rfl] at H; exact H
       clear H
       have H := H1
       clear H1
       exact absurd ((Option.some.inj H).trans hT.out) (by decide)
      replace c120 := Bool.eq_false_iff.mpr c120
      subst c120
      have H1 : ((laws_markDisk.f kj85 t234 1).bind fun bt247 => ((laws_heldDisk.f kj85 bt247.2 1).bind fun t249 => (if t249 < 0 then (some false) else (if t249 = bt247.1 then ((laws_toDisk.f kj85 l0_0).bind fun t250 => ((laws_toAct.f a1_0 a1_1 a1_2 a1_3).bind fun bt253 => ((impl_DoAct.f kj85 t250 bt253.1 bt253.2.1 bt253.2.2.1 bt253.2.2.2).bind fun bt257 => ((laws_eqDisk.f kj85 bt257.1 t221).bind fun t262 => (if t262 = true then (laws_FnExactDoAct.j2 kj85 bt247.1 (bt257.2 != t224) bt247.2) else (laws_FnExactDoAct.j2 kj85 bt247.1 true bt247.2)))))) else (some false))))) = some r := by rw [if_neg (show ¬ (false = true) by decide)] at H; exact H
      clear H
      have H := H1
      clear H1
      replace H := bm H
      obtain ⟨⟨t247, t248⟩, A1210, H⟩ := H
      replace H : ((laws_heldDisk.f kj85 t248 1).bind fun t249 => (if t249 < 0 then (some false) else (if t249 = t247 then ((laws_toDisk.f kj85 l0_0).bind fun t250 => ((laws_toAct.f a1_0 a1_1 a1_2 a1_3).bind fun bt253 => ((impl_DoAct.f kj85 t250 bt253.1 bt253.2.1 bt253.2.2.1 bt253.2.2.2).bind fun bt257 => ((laws_eqDisk.f kj85 bt257.1 t221).bind fun t262 => (if t262 = true then (laws_FnExactDoAct.j2 kj85 t247 (bt257.2 != t224) t248) else (laws_FnExactDoAct.j2 kj85 t247 true t248)))))) else (some false)))) = some r := H
      have A121 := AM A1210
      clear A1210
      replace H := bm H
      obtain ⟨t249, A1220, H⟩ := H
      replace H : (if t249 < 0 then (some false) else (if t249 = t247 then ((laws_toDisk.f kj85 l0_0).bind fun t250 => ((laws_toAct.f a1_0 a1_1 a1_2 a1_3).bind fun bt253 => ((impl_DoAct.f kj85 t250 bt253.1 bt253.2.1 bt253.2.2.1 bt253.2.2.2).bind fun bt257 => ((laws_eqDisk.f kj85 bt257.1 t221).bind fun t262 => (if t262 = true then (laws_FnExactDoAct.j2 kj85 t247 (bt257.2 != t224) t248) else (laws_FnExactDoAct.j2 kj85 t247 true t248)))))) else (some false))) = some r := H
      have A122 := AM A1220
      clear A1220
      by_cases c123 : t249 < 0
      ·rw [if_pos c123] at H
       have c123b0 : decide (t249 < 0) = true := decide_eq_true c123
       clear c123
       exact absurd ((Option.some.inj H).trans hT.out) (by decide)
      rw [if_neg c123] at H
      have c123b0 : decide (t249 < 0) = false := decide_eq_false c123
      clear c123
      by_cases c124 : t249 = t247
      ·rw [if_pos c124] at H
       have c124b0 : (t249 == t247) = true := beq_iff_eq.mpr c124
       have c124b1 : (t249 != t247) = false := bne_eq_false_iff_eq.mpr c124
       clear c124
       replace H := bm H
       obtain ⟨t250, A1250, H⟩ := H
       replace H : ((laws_toAct.f a1_0 a1_1 a1_2 a1_3).bind fun bt253 => ((impl_DoAct.f kj85 t250 bt253.1 bt253.2.1 bt253.2.2.1 bt253.2.2.2).bind fun bt257 => ((laws_eqDisk.f kj85 bt257.1 t221).bind fun t262 => (if t262 = true then (laws_FnExactDoAct.j2 kj85 t247 (bt257.2 != t224) t248) else (laws_FnExactDoAct.j2 kj85 t247 true t248))))) = some r := H
       have A125 := AM A1250
       clear A1250
       replace H := bm H
       obtain ⟨⟨t253, t254, t255, t256⟩, A1260, H⟩ := H
       replace H : ((impl_DoAct.f kj85 t250 t253 t254 t255 t256).bind fun bt257 => ((laws_eqDisk.f kj85 bt257.1 t221).bind fun t262 => (if t262 = true then (laws_FnExactDoAct.j2 kj85 t247 (bt257.2 != t224) t248) else (laws_FnExactDoAct.j2 kj85 t247 true t248)))) = some r := H
       have A126 := AM A1260
       clear A1260
       replace H := bm H
       obtain ⟨⟨t257, t260⟩, A1270, H⟩ := H
       replace H : ((laws_eqDisk.f kj85 t257 t221).bind fun t262 => (if t262 = true then (laws_FnExactDoAct.j2 kj85 t247 (t260 != t224) t248) else (laws_FnExactDoAct.j2 kj85 t247 true t248))) = some r := H
       have A127 := AM A1270
       clear A1270
       have HC128 := AM H
       clear H
       have hnb129 := NB238_210.out
       have hnc129 := NB210_238.out
       have hnb130 := NB238_211.out
       have hnc130 := NB211_238.out
       have hnb131 := NB238_225.out
       have hnc131 := NB225_238.out
       have hnb132 := NB238_229.out
       have hnc132 := NB229_238.out
       have hcz133_0 : wc.cell? ⟨gb238, 0, none⟩ = some (.slice Ao57 t234.length co57) := (blk_cell BK238.out 0).trans rfl
       have hfz133_0 := blk_frozen BK238.out 0
       try go_wp2_with (first | ((with_reducible refine gate_callee (f := 20) rfl ?_); refine goesL_ (some 75) rfl rfl Try.func20 (by kernel_rfl) rfl #[.agg #[.slice Ao57 t234.length co57], .int .i64 1] rfl (by (try simp only [List.map_toArray, List.map_cons, List.map_nil]); first | done | rfl) ?_; (with_reducible refine (laws_markDisk.calls kj85 (fun k_ => some k_ = (.slice Ao57 t234.length co57 : Value).ownBlock) (.slice Ao57 t234.length co57) t234 1 t247 t248 w _ ?side1 ?side2 A121.out).mono ?_); (case side1 => repeat (first | (with_reducible first | exact HB.out | apply bA | apply bN | apply bD | refine below_set ?_ GE210.out | refine below_set ?_ GE211.out | refine below_set ?_ GE225.out | refine below_set ?_ GE229.out | refine below_set ?_ GE238.out) | exact HB.out)); (case side2 => exact Kd.R_tight rfl HO_239000.out); rintro e w134 ⟨rfl, hy0, hb, hkp⟩; refine ⟨_, rfl, ?_⟩; have n0_ := AM (Kd.R_mono (ok' := fun k_ => some k_ ≠ (.slice Ao46 t245.length co46 : Value).ownBlock ∧ some k_ ≠ (.slice Ao57 t234.length co57 : Value).ownBlock) (Kd.R_keptB (HO_226000.out) hkp (fun k_ hk_ hs_ => (hk_.2) hs_)) (fun k_ hk_ => ⟨hk_.1.1, hk_.1.2⟩)); have n1_ := AM (Kd.R_mono (ok' := fun k_ => some k_ ≠ (.slice Ao40 t221.length co40 : Value).ownBlock ∧ some k_ ≠ (.slice Ao57 t234.length co57 : Value).ownBlock) (Kd.R_keptB (HO_230000.out) hkp (fun k_ hk_ hs_ => (hk_.2) hs_)) (fun k_ hk_ => ⟨hk_.1.1, hk_.1.2⟩)); have n2_ := AM (Kd.R_reok rfl hy0 (fun k_ e_ => HO_239000.out.1 k_ e_)); have n3_ := AM (blk_kept (bk BK210) hkp (fun hs_ => (fun e_ => (Kd.R_ne HO_239000.out BK210.out (by decide)) e_) hs_)); have n4_ := AM (blk_kept (bk BK211) hkp (fun hs_ => (fun e_ => (Kd.R_ne HO_239000.out BK211.out (by decide)) e_) hs_)); have n5_ := AM (blk_kept (bk BK225) hkp (fun hs_ => (fun e_ => (Kd.R_ne HO_239000.out BK225.out (by decide)) e_) hs_)); have n6_ := AM (blk_kept (bk BK229) hkp (fun hs_ => (fun e_ => (Kd.R_ne HO_239000.out BK229.out (by decide)) e_) hs_)); have n7_ := AM (blk_kept (bk BK238) hkp (fun hs_ => (fun e_ => (Kd.R_ne HO_239000.out BK238.out (by decide)) e_) hs_)); have n8_ := AM (hb); clear HO_226000; clear HO_230000; clear HO_239000; clear BK210; clear BK211; clear BK225; clear BK229; clear BK238; clear HB; have HO_226000 := n0_; have HO_230000 := n1_; have HO_239000 := n2_; have BK210 := n3_; have BK211 := n4_; have BK225 := n5_; have BK229 := n6_; have BK238 := n7_; have HB := n8_; clear n0_ n1_ n2_ n3_ n4_ n5_ n6_ n7_ n8_; (try clear hb); (try clear hkp); (try clear hy0); have hcz135_0 : w134.cell? ⟨gb238, 0, none⟩ = some (.slice Ao57 t234.length co57) := (blk_cell BK238.out 0).trans rfl; have hfz135_0 := blk_frozen BK238.out 0) | ((with_reducible refine gate_callee (f := 21) rfl ?_); refine goesL_ (some 78) rfl rfl Try.func21 (by kernel_rfl) rfl #[.agg #[.slice Ao57 t248.length co57], .int .i64 1] rfl (by (try simp only [List.map_toArray, List.map_cons, List.map_nil]); first | done | (rw [show t248.length = t234.length from (Kd.R_reads' HO_239000.out).1.symm] <;> rfl) | rfl | (simp only [List.length_drop, List.length_take]; rfl)) ?_; (with_reducible refine (laws_heldDisk.calls kj85 _ _ t248 1 t249 _ ?side1 ?side2 A122.out).mono ?_); (case side1 => repeat (first | exact (Kd.R_reads' HO_239000.out).2.2 | (with_reducible refine Kd.C_alloc ?_ _) | (with_reducible refine Kd.C_drewN ?_ _) | (with_reducible refine Kd.C_drew ?_))); (case side2 => rw [show t248.length = t234.length from (Kd.R_reads' HO_239000.out).1.symm]; exact (Kd.R_reads' HO_239000.out).2.1); rintro e w136 ⟨rfl, hb⟩; refine ⟨_, rfl, ?_⟩; have n0_ := AM (Kd.R_below (by exact HO_226000.out) hb); have n1_ := AM (Kd.R_below (by exact HO_230000.out) hb); have n2_ := AM (Kd.R_below (by exact HO_239000.out) hb); have n3_ := AM (blk_below (g := gb210) (o := .cells #[.slice A0_0 l0_0.length c0_0] 24 (0, 0)) (bk BK210) hb); have n4_ := AM (blk_below (g := gb211) (o := .cells #[.int .i64 a1_0, .string a1_1, .string a1_2, .string a1_3] 37 (0, 0)) (bk BK211) hb); have n5_ := AM (blk_below (g := gb225) (o := .cells #[.slice Ao40 t221.length co40] 30 (0, 0)) (bk BK225) hb); have n6_ := AM (blk_below (g := gb229) (o := .cells #[.slice Ao46 t245.length co46] 30 (0, 0)) (bk BK229) hb); have n7_ := AM (blk_below (g := gb238) (o := .cells #[.slice Ao57 t234.length co57] 30 (0, 0)) (bk BK238) hb); have n8_ := AM (below_step (hS) hb); clear HO_226000; clear HO_230000; clear HO_239000; clear BK210; clear BK211; clear BK225; clear BK229; clear BK238; clear HB; have HO_226000 := n0_; have HO_230000 := n1_; have HO_239000 := n2_; have BK210 := n3_; have BK211 := n4_; have BK225 := n5_; have BK229 := n6_; have BK238 := n7_; have HB := n8_; clear n0_ n1_ n2_ n3_ n4_ n5_ n6_ n7_ n8_; (try clear hb); (try clear hb2); (try clear hk); (try clear hi)))
       have n0_ := AM (Kd.R_drew HO_226000.out)
       have n1_ := AM (Kd.R_drew HO_230000.out)
       have n2_ := AM (Kd.R_drew HO_239000.out)
       have n3_ := AM (blk_drew BK210.out)
       have n4_ := AM (blk_drew BK211.out)
       have n5_ := AM (blk_drew BK225.out)
       have n6_ := AM (blk_drew BK229.out)
       have n7_ := AM (blk_drew BK238.out)
       have n8_ := AM (below_drew1 HB.out)
       clear HO_226000
       clear HO_230000
       clear HO_239000
       clear BK210
       clear BK211
       clear BK225
       clear BK229
       clear BK238
       clear HB
       have HO_226000 := n0_
       have HO_230000 := n1_
       have HO_239000 := n2_
       have BK210 := n3_
       have BK211 := n4_
       have BK225 := n5_
       have BK229 := n6_
       have BK238 := n7_
       have HB := n8_
       clear n0_ n1_ n2_ n3_ n4_ n5_ n6_ n7_ n8_
       refine start_ (n := 11) (S := fun w' => w'.cell? ⟨gb210, 0, none⟩ = some (.slice A0_0 l0_0.length c0_0) ∧ w'.cell? ⟨gb211, 0, none⟩ = some (.int .i64 a1_0) ∧ w'.cell? ⟨gb211, 1, none⟩ = some (.string a1_1) ∧ w'.cell? ⟨gb211, 2, none⟩ = some (.string a1_2) ∧ w'.cell? ⟨gb211, 3, none⟩ = some (.string a1_3)) (ds := []) #[false, false, false, false, false, false, false, false, false, false, false] (by kernel_rfl) rfl rfl ⟨(blk_cell BK210.out 0).trans rfl, (blk_cell BK211.out 0).trans rfl, (blk_cell BK211.out 1).trans rfl, (blk_cell BK211.out 2).trans rfl, (blk_cell BK211.out 3).trans rfl⟩ (fun hHeld => ?_); refine with_tabW laws_FnExactDoAct.tab27 laws_FnExactDoAct.bits27 (fun HT_ HW_ => ?_)
       generalize w136.drew = w137 at HO_226000 HO_230000 HO_239000 BK210 BK211 BK225 BK229 BK238 HB hHeld ⊢
       refine take_ (i := 0) (N := some 85) (v := ?_) (a' := ?_) #[true, false, false, false, false, false, false, false, false, false, false] rfl rfl (take_ofW HT_.out HW_.out (by kernel_rfl)) (fun _ _ _ h => h) (Or.inl ⟨by rfl, ?_⟩) hHeld ?_ ?_
       rotate_left
       ·rintro w' ⟨s0, s1, s2, s3, s4⟩
        go_simp
        with_reducible rfl
       rotate_left
       ·simp only [Act.put, qT, q0, qS, i64_w, i32_w]
        rfl
       refine take_ (i := 2) (N := some 87) (v := ?_) (a' := ?_) #[true, false, true, false, false, false, false, false, false, false, false] rfl rfl (take_ofW HT_.out HW_.out (by kernel_rfl)) (fun _ _ _ h => h) (Or.inl ⟨by rfl, ?_⟩) hHeld ?_ ?_
       rotate_left
       ·rintro w' ⟨s0, s1, s2, s3, s4⟩
        go_simp
        with_reducible rfl
       rotate_left
       ·simp only [Act.put, qT, q0, qS, i64_w, i32_w]
        rfl
       refine join_ (σ := Value × Value × Nat) 2 #[true, true, true, true, true, true, true, true, true, false, false] (fun s_ => [(86, .agg #[s_.1]), (88, .agg #[.int .i64 t253, .string t254, .string t255, .string t256]), (89, .tuple #[.agg #[s_.2.1], .bool t260]), (14, .pointer (some ⟨s_.2.2, 0, none⟩)), (84, .tuple #[.agg #[s_.2.1], .bool t260]), (90, .agg #[s_.2.1]), (91, .bool t260)]) (fun s_ w' => (w'.cell? ⟨gb210, 0, none⟩ = some (.slice A0_0 l0_0.length c0_0) ∧ w'.cell? ⟨gb211, 0, none⟩ = some (.int .i64 a1_0) ∧ w'.cell? ⟨gb211, 1, none⟩ = some (.string a1_1) ∧ w'.cell? ⟨gb211, 2, none⟩ = some (.string a1_2) ∧ w'.cell? ⟨gb211, 3, none⟩ = some (.string a1_3)) ∧ (Kd.R k67 67 w' w.heap.size (fun k_ => some k_ ≠ (s_.2.1 : Value).ownBlock ∧ some k_ ≠ (.slice Ao40 t221.length co40 : Value).ownBlock ∧ some k_ ≠ (.slice Ao46 t245.length co46 : Value).ownBlock ∧ some k_ ≠ (.slice Ao57 t234.length co57 : Value).ownBlock) s_.1 t250) ∧ (Kd.R k67 67 w' w.heap.size (fun k_ => some k_ ≠ (s_.1 : Value).ownBlock ∧ some k_ ≠ (.slice Ao40 t221.length co40 : Value).ownBlock ∧ some k_ ≠ (.slice Ao46 t245.length co46 : Value).ownBlock ∧ some k_ ≠ (.slice Ao57 t234.length co57 : Value).ownBlock) s_.2.1 t257) ∧ (Kd.R k67 67 w' w.heap.size (fun k_ => some k_ ≠ (s_.1 : Value).ownBlock ∧ some k_ ≠ (s_.2.1 : Value).ownBlock ∧ some k_ ≠ (.slice Ao46 t245.length co46 : Value).ownBlock ∧ some k_ ≠ (.slice Ao57 t234.length co57 : Value).ownBlock) (.slice Ao40 t221.length co40) t221) ∧ (Kd.R k67 67 w' w.heap.size (fun k_ => some k_ ≠ (s_.1 : Value).ownBlock ∧ some k_ ≠ (s_.2.1 : Value).ownBlock ∧ some k_ ≠ (.slice Ao40 t221.length co40 : Value).ownBlock ∧ some k_ ≠ (.slice Ao57 t234.length co57 : Value).ownBlock) (.slice Ao46 t245.length co46) t245) ∧ (Kd.R k67 67 w' w.heap.size (fun k_ => some k_ ≠ (s_.1 : Value).ownBlock ∧ some k_ ≠ (s_.2.1 : Value).ownBlock ∧ some k_ ≠ (.slice Ao40 t221.length co40 : Value).ownBlock ∧ some k_ ≠ (.slice Ao46 t245.length co46 : Value).ownBlock) (.slice Ao57 t234.length co57) t248) ∧ (w'.heap[gb210]? = some (.cells #[.slice A0_0 l0_0.length c0_0] 24 (0, 0))) ∧ (w'.heap[gb211]? = some (.cells #[.int .i64 a1_0, .string a1_1, .string a1_2, .string a1_3] 37 (0, 0))) ∧ (w'.heap[gb225]? = some (.cells #[.slice Ao40 t221.length co40] 30 (0, 0))) ∧ (w'.heap[gb229]? = some (.cells #[.slice Ao46 t245.length co46] 30 (0, 0))) ∧ (w'.heap[gb238]? = some (.cells #[.slice Ao57 t234.length co57] 30 (0, 0))) ∧ (w'.heap[s_.2.2]? = some (.cells #[.slice none 0 0] 30 (0, 0))) ∧ (w.heap.size ≤ s_.2.2) ∧ (w.heap.size ≤ s_.2.2) ∧ (gb210 ≠ s_.2.2) ∧ (s_.2.2 ≠ gb210) ∧ (gb211 ≠ s_.2.2) ∧ (s_.2.2 ≠ gb211) ∧ (gb225 ≠ s_.2.2) ∧ (s_.2.2 ≠ gb225) ∧ (gb229 ≠ s_.2.2) ∧ (s_.2.2 ≠ gb229) ∧ (gb238 ≠ s_.2.2) ∧ (s_.2.2 ≠ gb238) ∧ (Below w.heap.size w w')) ?_ ?_
       rotate_left
       ·intro hCont
        refine two_ (i := 1) (j := 8) (Ni := some 86) (Nj := some 14) #[true, true, true, false, false, false, false, false, false, false, false] #[true, false, true, false, false, false, false, false, true, false, false] rfl rfl rfl rfl (two_of HT_.out (by kernel_rfl)) (by decide) (by decide) (fun K hK => ?_) (fun K hK => ?_)
        ·skip
         refine goes_ Try.func11 (by kernel_rfl) rfl #[.agg #[.slice A0_0 l0_0.length c0_0]] (by rfl) rfl rfl (by (try simp only [List.map_toArray, List.map_cons, List.map_nil]); first | done | rfl) ?_
         with_reducible refine (laws_toDisk.calls kj85 _ _ l0_0 t250 _ ?side1 ?side2 A125.out).mono ?_
         (case side1 => repeat (first | exact (Kd.C_below HR0_0.out HB.out) | (with_reducible refine Kd.C_alloc ?_ _) | (with_reducible refine Kd.C_drewN ?_ _) | (with_reducible refine Kd.C_drew ?_)))
         (case side2 => exact HC0_0.out)
         rintro e w138 ⟨v251, rfl, ho0, hb⟩
         refine ⟨_, rfl, ?_⟩
         have n0_ := AM (Kd.R_elder' (by exact HO_226000.out) (Kd.R_base ho0) hb)
         have n1_ := AM (Kd.R_elder' (by exact HO_230000.out) (Kd.R_base ho0) hb)
         have n2_ := AM (Kd.R_elder' (by exact HO_239000.out) (Kd.R_base ho0) hb)
         have n3_ := AM (Kd.R_lower (Kd.R_new' (Kd.R_new' (Kd.R_new' ho0 (Kd.R_lt (by exact HO_226000.out))) (Kd.R_lt (by exact HO_230000.out))) (Kd.R_lt (by exact HO_239000.out))) (below_size (hS)))
         have n4_ := AM (blk_below (g := gb210) (o := .cells #[.slice A0_0 l0_0.length c0_0] 24 (0, 0)) (bk BK210) hb)
         have n5_ := AM (blk_below (g := gb211) (o := .cells #[.int .i64 a1_0, .string a1_1, .string a1_2, .string a1_3] 37 (0, 0)) (bk BK211) hb)
         have n6_ := AM (blk_below (g := gb225) (o := .cells #[.slice Ao40 t221.length co40] 30 (0, 0)) (bk BK225) hb)
         have n7_ := AM (blk_below (g := gb229) (o := .cells #[.slice Ao46 t245.length co46] 30 (0, 0)) (bk BK229) hb)
         have n8_ := AM (blk_below (g := gb238) (o := .cells #[.slice Ao57 t234.length co57] 30 (0, 0)) (bk BK238) hb)
         have n9_ := AM (below_step (hS) hb)
         clear HO_226000
         clear HO_230000
         clear HO_239000
         clear BK210
         clear BK211
         clear BK225
         clear BK229
         clear BK238
         clear HB
         have HO_226000 := n0_
         have HO_230000 := n1_
         have HO_239000 := n2_
         have HO252 := n3_
         have BK210 := n4_
         have BK211 := n5_
         have BK225 := n6_
         have BK229 := n7_
         have BK238 := n8_
         have HB := n9_
         clear n0_ n1_ n2_ n3_ n4_ n5_ n6_ n7_ n8_ n9_
         (try clear hb)
         (try clear hb2)
         (try clear hk)
         (try clear hi)
         (try clear ho0)
         refine hK.out _ _ ⟨(blk_cell BK210.out 0).trans rfl, (blk_cell BK211.out 0).trans rfl, (blk_cell BK211.out 1).trans rfl, (blk_cell BK211.out 2).trans rfl, (blk_cell BK211.out 3).trans rfl⟩ (fun hHeld => ?_)
         clear hK K
         refine norm_ (a' := ?_) ?_ ?_
         rotate_left
         ·show Act.put _ (some 86) _ = _
          simp only [Act.put, qT, q0, qS, i64_w, i32_w]
          rfl
         refine two_ (i := 3) (j := 8) (Ni := some 88) (Nj := some 14) #[true, true, true, true, false, false, false, false, false, false, false] #[true, true, true, false, false, false, false, false, true, false, false] rfl rfl rfl rfl (two_of HT_.out (by kernel_rfl)) (by decide) (by decide) (fun K hK => ?_) (fun K hK => ?_)
         ·skip
          refine goes_ Try.func18 (by kernel_rfl) rfl #[.agg #[.int .i64 a1_0, .string a1_1, .string a1_2, .string a1_3]] (by rfl) rfl rfl (by (try simp only [List.map_toArray, List.map_cons, List.map_nil]); first | done | rfl) ?_
          with_reducible refine (laws_toAct.calls a1_0 a1_1 a1_2 a1_3 t253 t254 t255 t256 _ A126.out).mono ?_
          rintro e w139 ⟨rfl, hb⟩
          refine ⟨_, rfl, ?_⟩
          have n0_ := AM (Kd.R_below (by exact HO_226000.out) hb)
          have n1_ := AM (Kd.R_below (by exact HO_230000.out) hb)
          have n2_ := AM (Kd.R_below (by exact HO_239000.out) hb)
          have n3_ := AM (Kd.R_below (by exact HO252.out) hb)
          have n4_ := AM (blk_below (g := gb210) (o := .cells #[.slice A0_0 l0_0.length c0_0] 24 (0, 0)) (bk BK210) hb)
          have n5_ := AM (blk_below (g := gb211) (o := .cells #[.int .i64 a1_0, .string a1_1, .string a1_2, .string a1_3] 37 (0, 0)) (bk BK211) hb)
          have n6_ := AM (blk_below (g := gb225) (o := .cells #[.slice Ao40 t221.length co40] 30 (0, 0)) (bk BK225) hb)
          have n7_ := AM (blk_below (g := gb229) (o := .cells #[.slice Ao46 t245.length co46] 30 (0, 0)) (bk BK229) hb)
          have n8_ := AM (blk_below (g := gb238) (o := .cells #[.slice Ao57 t234.length co57] 30 (0, 0)) (bk BK238) hb)
          have n9_ := AM (below_step (hS) hb)
          clear HO_226000
          clear HO_230000
          clear HO_239000
          clear HO252
          clear BK210
          clear BK211
          clear BK225
          clear BK229
          clear BK238
          clear HB
          have HO_226000 := n0_
          have HO_230000 := n1_
          have HO_239000 := n2_
          have HO252 := n3_
          have BK210 := n4_
          have BK211 := n5_
          have BK225 := n6_
          have BK229 := n7_
          have BK238 := n8_
          have HB := n9_
          clear n0_ n1_ n2_ n3_ n4_ n5_ n6_ n7_ n8_ n9_
          (try clear hb)
          (try clear hb2)
          (try clear hk)
          (try clear hi)
          obtain ⟨Ao140, co140, eo140⟩ := Kd.R_slice HO252.out
          (first | subst eo140 | (injection eo140 with f1_ f2_ f3_; have f4_ := f1_.symm; have f5_ := f3_.symm; clear f1_ f2_ f3_; subst f4_; subst f5_))
          refine hK.out _ _ ⟨(blk_cell BK210.out 0).trans rfl, (blk_cell BK211.out 0).trans rfl, (blk_cell BK211.out 1).trans rfl, (blk_cell BK211.out 2).trans rfl, (blk_cell BK211.out 3).trans rfl⟩ (fun hHeld => ?_)
          clear hK K
          refine norm_ (a' := ?_) ?_ ?_
          rotate_left
          ·show Act.put _ (some 88) _ = _
           simp only [Act.put, qT, q0, qS, i64_w, i32_w]
           rfl
          refine two_ (i := 4) (j := 8) (Ni := some 89) (Nj := some 14) #[true, true, true, true, true, false, false, false, false, false, false] #[true, true, true, true, false, false, false, false, true, false, false] rfl rfl rfl rfl (two_of HT_.out (by kernel_rfl)) (by decide) (by decide) (fun K hK => ?_) (fun K hK => ?_)
          ·skip
           refine goes_ Try.func19 (by kernel_rfl) rfl #[.agg #[.slice Ao140 t250.length co140], .agg #[.int .i64 t253, .string t254, .string t255, .string t256]] (by rfl) rfl rfl (by (try simp only [List.map_toArray, List.map_cons, List.map_nil]); first | done | rfl) ?_
           with_reducible refine (impl_DoAct.calls kj85 _ _ t250 t253 t254 t255 t256 t257 t260 _ ?side1 ?side2 A127.out).mono ?_
           (case side1 => repeat (first | exact (Kd.R_reads' HO252.out).2.2 | (with_reducible refine Kd.C_alloc ?_ _) | (with_reducible refine Kd.C_drewN ?_ _) | (with_reducible refine Kd.C_drew ?_)))
           (case side2 => exact (Kd.R_reads' HO252.out).2.1)
           rintro e w141 ⟨v258, rfl, ho0, hb⟩
           refine ⟨_, rfl, ?_⟩
           have n0_ := AM (Kd.R_elder' (by exact HO_226000.out) (Kd.R_base ho0) hb)
           have n1_ := AM (Kd.R_elder' (by exact HO_230000.out) (Kd.R_base ho0) hb)
           have n2_ := AM (Kd.R_elder' (by exact HO_239000.out) (Kd.R_base ho0) hb)
           have n3_ := AM (Kd.R_elder' (by exact HO252.out) (Kd.R_base ho0) hb)
           have n4_ := AM (Kd.R_lower (Kd.R_new' (Kd.R_new' (Kd.R_new' (Kd.R_new' ho0 (Kd.R_lt (by exact HO_226000.out))) (Kd.R_lt (by exact HO_230000.out))) (Kd.R_lt (by exact HO_239000.out))) (Kd.R_lt (by exact HO252.out))) (below_size (hS)))
           have n5_ := AM (blk_below (g := gb210) (o := .cells #[.slice A0_0 l0_0.length c0_0] 24 (0, 0)) (bk BK210) hb)
           have n6_ := AM (blk_below (g := gb211) (o := .cells #[.int .i64 a1_0, .string a1_1, .string a1_2, .string a1_3] 37 (0, 0)) (bk BK211) hb)
           have n7_ := AM (blk_below (g := gb225) (o := .cells #[.slice Ao40 t221.length co40] 30 (0, 0)) (bk BK225) hb)
           have n8_ := AM (blk_below (g := gb229) (o := .cells #[.slice Ao46 t245.length co46] 30 (0, 0)) (bk BK229) hb)
           have n9_ := AM (blk_below (g := gb238) (o := .cells #[.slice Ao57 t234.length co57] 30 (0, 0)) (bk BK238) hb)
           have n10_ := AM (below_step (hS) hb)
           clear HO_226000
           clear HO_230000
           clear HO_239000
           clear HO252
           clear BK210
           clear BK211
           clear BK225
           clear BK229
           clear BK238
           clear HB
           have HO_226000 := n0_
           have HO_230000 := n1_
           have HO_239000 := n2_
           have HO252 := n3_
           have HO259 := n4_
           have BK210 := n5_
           have BK211 := n6_
           have BK225 := n7_
           have BK229 := n8_
           have BK238 := n9_
           have HB := n10_
           clear n0_ n1_ n2_ n3_ n4_ n5_ n6_ n7_ n8_ n9_ n10_
           (try clear hb)
           (try clear hb2)
           (try clear hk)
           (try clear hi)
           (try clear ho0)
           refine hK.out _ _ ⟨(blk_cell BK210.out 0).trans rfl, (blk_cell BK211.out 0).trans rfl, (blk_cell BK211.out 1).trans rfl, (blk_cell BK211.out 2).trans rfl, (blk_cell BK211.out 3).trans rfl⟩ (fun hHeld => ?_)
           clear hK K
           refine norm_ (a' := ?_) ?_ ?_
           rotate_left
           ·show Act.put _ (some 89) _ = _
            simp only [Act.put, qT, q0, qS, i64_w, i32_w]
            rfl
           refine pure_ (i := 5) (N := some 84) (v := ?_) (a' := ?_) #[true, true, true, true, true, true, false, false, false, false, false] rfl rfl (any_of HT_.out (by kernel_rfl)) (fun _ _ _ h => h) (Or.inl ⟨by rfl, ?_⟩) ?_ ?_
           rotate_left
           ·intro w'
            go_simp
            with_reducible rfl
           rotate_left
           ·simp only [Act.put, qT, q0, qS, i64_w, i32_w]
            rfl
           refine pure_ (i := 6) (N := some 90) (v := ?_) (a' := ?_) #[true, true, true, true, true, true, true, false, false, false, false] rfl rfl (any_of HT_.out (by kernel_rfl)) (fun _ _ _ h => h) (Or.inl ⟨by rfl, ?_⟩) ?_ ?_
           rotate_left
           ·intro w'
            go_simp
            with_reducible rfl
           rotate_left
           ·simp only [Act.put, qT, q0, qS, i64_w, i32_w]
            rfl
           refine pure_ (i := 7) (N := some 91) (v := ?_) (a' := ?_) #[true, true, true, true, true, true, true, true, false, false, false] rfl rfl (any_of HT_.out (by kernel_rfl)) (fun _ _ _ h => h) (Or.inl ⟨by rfl, ?_⟩) ?_ ?_
           rotate_left
           ·intro w'
            go_simp
            with_reducible rfl
           rotate_left
           ·simp only [Act.put, qT, q0, qS, i64_w, i32_w]
            rfl
           refine one_ (i := 8) (N := some 14) #[true, true, true, true, true, true, true, true, true, false, false] rfl rfl (one_of HT_.out (by kernel_rfl)) (by decide) (fun K hK => ?_)
           refine box_step ?hg (N := 14) ?hd (cs := #[.slice none 0 0]) (t := 30) ?hr ?_; (case hd => rfl); (case hg => rfl); (case hr => first | (go_simp; done) | (go_simp; rfl))
           intro gb261 hg w142 hbox hb
           have n0_ := AM (Kd.R_below (by exact HO_226000.out) hb)
           have n1_ := AM (Kd.R_below (by exact HO_230000.out) hb)
           have n2_ := AM (Kd.R_below (by exact HO_239000.out) hb)
           have n3_ := AM (Kd.R_below (by exact HO252.out) hb)
           have n4_ := AM (Kd.R_below (by exact HO259.out) hb)
           have n5_ := AM (blk_below (g := gb210) (o := .cells #[.slice A0_0 l0_0.length c0_0] 24 (0, 0)) (bk BK210) hb)
           have n6_ := AM (blk_below (g := gb211) (o := .cells #[.int .i64 a1_0, .string a1_1, .string a1_2, .string a1_3] 37 (0, 0)) (bk BK211) hb)
           have n7_ := AM (blk_below (g := gb225) (o := .cells #[.slice Ao40 t221.length co40] 30 (0, 0)) (bk BK225) hb)
           have n8_ := AM (blk_below (g := gb229) (o := .cells #[.slice Ao46 t245.length co46] 30 (0, 0)) (bk BK229) hb)
           have n9_ := AM (blk_below (g := gb238) (o := .cells #[.slice Ao57 t234.length co57] 30 (0, 0)) (bk BK238) hb)
           have n10_ := AM (below_step (hS) hb)
           have n11_ := AM (hbox)
           have n12_ := AM ((by rw [hg]; exact (below_size (hS)) : w.heap.size ≤ gb261))
           have n13_ := AM ((by rw [hg]; exact (below_size (hS)) : w.heap.size ≤ gb261))
           have n14_ := AM ((by rw [hg]; exact Nat.ne_of_lt (blk_lt (g := gb210) (o := .cells #[.slice A0_0 l0_0.length c0_0] 24 (0, 0)) (bk BK210)) : gb210 ≠ gb261))
           have n15_ := AM ((by rw [hg]; exact Nat.ne_of_gt (blk_lt (g := gb210) (o := .cells #[.slice A0_0 l0_0.length c0_0] 24 (0, 0)) (bk BK210)) : gb261 ≠ gb210))
           have n16_ := AM ((by rw [hg]; exact Nat.ne_of_lt (blk_lt (g := gb211) (o := .cells #[.int .i64 a1_0, .string a1_1, .string a1_2, .string a1_3] 37 (0, 0)) (bk BK211)) : gb211 ≠ gb261))
           have n17_ := AM ((by rw [hg]; exact Nat.ne_of_gt (blk_lt (g := gb211) (o := .cells #[.int .i64 a1_0, .string a1_1, .string a1_2, .string a1_3] 37 (0, 0)) (bk BK211)) : gb261 ≠ gb211))
           have n18_ := AM ((by rw [hg]; exact Nat.ne_of_lt (blk_lt (g := gb225) (o := .cells #[.slice Ao40 t221.length co40] 30 (0, 0)) (bk BK225)) : gb225 ≠ gb261))
           have n19_ := AM ((by rw [hg]; exact Nat.ne_of_gt (blk_lt (g := gb225) (o := .cells #[.slice Ao40 t221.length co40] 30 (0, 0)) (bk BK225)) : gb261 ≠ gb225))
           have n20_ := AM ((by rw [hg]; exact Nat.ne_of_lt (blk_lt (g := gb229) (o := .cells #[.slice Ao46 t245.length co46] 30 (0, 0)) (bk BK229)) : gb229 ≠ gb261))
           have n21_ := AM ((by rw [hg]; exact Nat.ne_of_gt (blk_lt (g := gb229) (o := .cells #[.slice Ao46 t245.length co46] 30 (0, 0)) (bk BK229)) : gb261 ≠ gb229))
           have n22_ := AM ((by rw [hg]; exact Nat.ne_of_lt (blk_lt (g := gb238) (o := .cells #[.slice Ao57 t234.length co57] 30 (0, 0)) (bk BK238)) : gb238 ≠ gb261))
           have n23_ := AM ((by rw [hg]; exact Nat.ne_of_gt (blk_lt (g := gb238) (o := .cells #[.slice Ao57 t234.length co57] 30 (0, 0)) (bk BK238)) : gb261 ≠ gb238))
           clear HO_226000
           clear HO_230000
           clear HO_239000
           clear HO252
           clear HO259
           clear BK210
           clear BK211
           clear BK225
           clear BK229
           clear BK238
           clear HB
           have HO_226000 := n0_
           have HO_230000 := n1_
           have HO_239000 := n2_
           have HO252 := n3_
           have HO259 := n4_
           have BK210 := n5_
           have BK211 := n6_
           have BK225 := n7_
           have BK229 := n8_
           have BK238 := n9_
           have HB := n10_
           have BK261 := n11_
           have GW261 := n12_
           have GE261 := n13_
           have NB210_261 := n14_
           have NB261_210 := n15_
           have NB211_261 := n16_
           have NB261_211 := n17_
           have NB225_261 := n18_
           have NB261_225 := n19_
           have NB229_261 := n20_
           have NB261_229 := n21_
           have NB238_261 := n22_
           have NB261_238 := n23_
           clear n0_ n1_ n2_ n3_ n4_ n5_ n6_ n7_ n8_ n9_ n10_ n11_ n12_ n13_ n14_ n15_ n16_ n17_ n18_ n19_ n20_ n21_ n22_ n23_
           clear hb hbox hg
           refine hK.out _ _ ⟨(blk_cell BK210.out 0).trans rfl, (blk_cell BK211.out 0).trans rfl, (blk_cell BK211.out 1).trans rfl, (blk_cell BK211.out 2).trans rfl, (blk_cell BK211.out 3).trans rfl⟩ (fun hHeld => ?_)
           clear hK K
           refine norm_ (a' := ?_) ?_ ?_
           rotate_left
           ·show Act.put _ (some 14) _ = _
            simp only [Act.put, qT, q0, qS, i64_w, i32_w]
            rfl
           exact norm_ (by simp only [putAll, Act.put, qT, q0, qS]) (hCont (.slice Ao140 t250.length co140, v258, gb261) _ ⟨hHeld, (by exact Kd.R_mono HO252.out (fun _ hk => ⟨hk.2, ⟨hk.1.1.1.2, ⟨hk.1.1.2, hk.1.2⟩⟩⟩)), (by exact Kd.R_mono HO259.out (fun _ hk => ⟨hk.2, ⟨hk.1.1.1.2, ⟨hk.1.1.2, hk.1.2⟩⟩⟩)), (by exact Kd.R_mono HO_226000.out (fun _ hk => ⟨hk.1.2, ⟨hk.2, ⟨hk.1.1.1, hk.1.1.2⟩⟩⟩)), (by exact Kd.R_mono HO_230000.out (fun _ hk => ⟨hk.1.2, ⟨hk.2, ⟨hk.1.1.1, hk.1.1.2⟩⟩⟩)), (by exact Kd.R_mono HO_239000.out (fun _ hk => ⟨hk.1.2, ⟨hk.2, ⟨hk.1.1.1, hk.1.1.2⟩⟩⟩)), (bk BK210), (bk BK211), (bk BK225), (bk BK229), (bk BK238), (bk BK261), GW261.out, GE261.out, NB210_261.out, NB261_210.out, NB211_261.out, NB261_211.out, NB225_261.out, NB261_225.out, NB229_261.out, NB261_229.out, NB238_261.out, NB261_238.out, (hS)⟩)
          skip
          refine box_step ?hg (N := 14) ?hd (cs := #[.slice none 0 0]) (t := 30) ?hr ?_; (case hd => rfl); (case hg => rfl); (case hr => first | (go_simp; done) | (go_simp; rfl))
          intro gb261 hg w140 hbox hb
          have n0_ := AM (Kd.R_below (by exact HO_226000.out) hb)
          have n1_ := AM (Kd.R_below (by exact HO_230000.out) hb)
          have n2_ := AM (Kd.R_below (by exact HO_239000.out) hb)
          have n3_ := AM (Kd.R_below (by exact HO252.out) hb)
          have n4_ := AM (blk_below (g := gb210) (o := .cells #[.slice A0_0 l0_0.length c0_0] 24 (0, 0)) (bk BK210) hb)
          have n5_ := AM (blk_below (g := gb211) (o := .cells #[.int .i64 a1_0, .string a1_1, .string a1_2, .string a1_3] 37 (0, 0)) (bk BK211) hb)
          have n6_ := AM (blk_below (g := gb225) (o := .cells #[.slice Ao40 t221.length co40] 30 (0, 0)) (bk BK225) hb)
          have n7_ := AM (blk_below (g := gb229) (o := .cells #[.slice Ao46 t245.length co46] 30 (0, 0)) (bk BK229) hb)
          have n8_ := AM (blk_below (g := gb238) (o := .cells #[.slice Ao57 t234.length co57] 30 (0, 0)) (bk BK238) hb)
          have n9_ := AM (below_step (hS) hb)
          have n10_ := AM (hbox)
          have n11_ := AM ((by rw [hg]; exact (below_size (hS)) : w.heap.size ≤ gb261))
          have n12_ := AM ((by rw [hg]; exact (below_size (hS)) : w.heap.size ≤ gb261))
          have n13_ := AM ((by rw [hg]; exact Nat.ne_of_lt (blk_lt (g := gb210) (o := .cells #[.slice A0_0 l0_0.length c0_0] 24 (0, 0)) (bk BK210)) : gb210 ≠ gb261))
          have n14_ := AM ((by rw [hg]; exact Nat.ne_of_gt (blk_lt (g := gb210) (o := .cells #[.slice A0_0 l0_0.length c0_0] 24 (0, 0)) (bk BK210)) : gb261 ≠ gb210))
          have n15_ := AM ((by rw [hg]; exact Nat.ne_of_lt (blk_lt (g := gb211) (o := .cells #[.int .i64 a1_0, .string a1_1, .string a1_2, .string a1_3] 37 (0, 0)) (bk BK211)) : gb211 ≠ gb261))
          have n16_ := AM ((by rw [hg]; exact Nat.ne_of_gt (blk_lt (g := gb211) (o := .cells #[.int .i64 a1_0, .string a1_1, .string a1_2, .string a1_3] 37 (0, 0)) (bk BK211)) : gb261 ≠ gb211))
          have n17_ := AM ((by rw [hg]; exact Nat.ne_of_lt (blk_lt (g := gb225) (o := .cells #[.slice Ao40 t221.length co40] 30 (0, 0)) (bk BK225)) : gb225 ≠ gb261))
          have n18_ := AM ((by rw [hg]; exact Nat.ne_of_gt (blk_lt (g := gb225) (o := .cells #[.slice Ao40 t221.length co40] 30 (0, 0)) (bk BK225)) : gb261 ≠ gb225))
          have n19_ := AM ((by rw [hg]; exact Nat.ne_of_lt (blk_lt (g := gb229) (o := .cells #[.slice Ao46 t245.length co46] 30 (0, 0)) (bk BK229)) : gb229 ≠ gb261))
          have n20_ := AM ((by rw [hg]; exact Nat.ne_of_gt (blk_lt (g := gb229) (o := .cells #[.slice Ao46 t245.length co46] 30 (0, 0)) (bk BK229)) : gb261 ≠ gb229))
          have n21_ := AM ((by rw [hg]; exact Nat.ne_of_lt (blk_lt (g := gb238) (o := .cells #[.slice Ao57 t234.length co57] 30 (0, 0)) (bk BK238)) : gb238 ≠ gb261))
          have n22_ := AM ((by rw [hg]; exact Nat.ne_of_gt (blk_lt (g := gb238) (o := .cells #[.slice Ao57 t234.length co57] 30 (0, 0)) (bk BK238)) : gb261 ≠ gb238))
          clear HO_226000
          clear HO_230000
          clear HO_239000
          clear HO252
          clear BK210
          clear BK211
          clear BK225
          clear BK229
          clear BK238
          clear HB
          have HO_226000 := n0_
          have HO_230000 := n1_
          have HO_239000 := n2_
          have HO252 := n3_
          have BK210 := n4_
          have BK211 := n5_
          have BK225 := n6_
          have BK229 := n7_
          have BK238 := n8_
          have HB := n9_
          have BK261 := n10_
          have GW261 := n11_
          have GE261 := n12_
          have NB210_261 := n13_
          have NB261_210 := n14_
          have NB211_261 := n15_
          have NB261_211 := n16_
          have NB225_261 := n17_
          have NB261_225 := n18_
          have NB229_261 := n19_
          have NB261_229 := n20_
          have NB238_261 := n21_
          have NB261_238 := n22_
          clear n0_ n1_ n2_ n3_ n4_ n5_ n6_ n7_ n8_ n9_ n10_ n11_ n12_ n13_ n14_ n15_ n16_ n17_ n18_ n19_ n20_ n21_ n22_
          clear hb hbox hg
          obtain ⟨Ao141, co141, eo141⟩ := Kd.R_slice HO252.out
          (first | subst eo141 | (injection eo141 with f1_ f2_ f3_; have f4_ := f1_.symm; have f5_ := f3_.symm; clear f1_ f2_ f3_; subst f4_; subst f5_))
          refine hK.out _ _ ⟨(blk_cell BK210.out 0).trans rfl, (blk_cell BK211.out 0).trans rfl, (blk_cell BK211.out 1).trans rfl, (blk_cell BK211.out 2).trans rfl, (blk_cell BK211.out 3).trans rfl⟩ (fun hHeld => ?_)
          clear hK K
          refine norm_ (a' := ?_) ?_ ?_
          rotate_left
          ·show Act.put _ (some 14) _ = _
           simp only [Act.put, qT, q0, qS, i64_w, i32_w]
           rfl
          refine one_ (i := 4) (N := some 89) #[true, true, true, true, true, false, false, false, true, false, false] rfl rfl (one_of HT_.out (by kernel_rfl)) (by decide) (fun K hK => ?_)
          refine goes_ Try.func19 (by kernel_rfl) rfl #[.agg #[.slice Ao141 t250.length co141], .agg #[.int .i64 t253, .string t254, .string t255, .string t256]] (by rfl) rfl rfl (by (try simp only [List.map_toArray, List.map_cons, List.map_nil]); first | done | rfl) ?_
          with_reducible refine (impl_DoAct.calls kj85 _ _ t250 t253 t254 t255 t256 t257 t260 _ ?side1 ?side2 A127.out).mono ?_
          (case side1 => repeat (first | exact (Kd.R_reads' HO252.out).2.2 | (with_reducible refine Kd.C_alloc ?_ _) | (with_reducible refine Kd.C_drewN ?_ _) | (with_reducible refine Kd.C_drew ?_)))
          (case side2 => exact (Kd.R_reads' HO252.out).2.1)
          rintro e w142 ⟨v258, rfl, ho0, hb⟩
          refine ⟨_, rfl, ?_⟩
          have n0_ := AM (Kd.R_elder' (by exact HO_226000.out) (Kd.R_base ho0) hb)
          have n1_ := AM (Kd.R_elder' (by exact HO_230000.out) (Kd.R_base ho0) hb)
          have n2_ := AM (Kd.R_elder' (by exact HO_239000.out) (Kd.R_base ho0) hb)
          have n3_ := AM (Kd.R_elder' (by exact HO252.out) (Kd.R_base ho0) hb)
          have n4_ := AM (Kd.R_lower (Kd.R_new' (Kd.R_new' (Kd.R_new' (Kd.R_new' ho0 (Kd.R_lt (by exact HO_226000.out))) (Kd.R_lt (by exact HO_230000.out))) (Kd.R_lt (by exact HO_239000.out))) (Kd.R_lt (by exact HO252.out))) (below_size (hS)))
          have n5_ := AM (blk_below (g := gb210) (o := .cells #[.slice A0_0 l0_0.length c0_0] 24 (0, 0)) (bk BK210) hb)
          have n6_ := AM (blk_below (g := gb211) (o := .cells #[.int .i64 a1_0, .string a1_1, .string a1_2, .string a1_3] 37 (0, 0)) (bk BK211) hb)
          have n7_ := AM (blk_below (g := gb225) (o := .cells #[.slice Ao40 t221.length co40] 30 (0, 0)) (bk BK225) hb)
          have n8_ := AM (blk_below (g := gb229) (o := .cells #[.slice Ao46 t245.length co46] 30 (0, 0)) (bk BK229) hb)
          have n9_ := AM (blk_below (g := gb238) (o := .cells #[.slice Ao57 t234.length co57] 30 (0, 0)) (bk BK238) hb)
          have n10_ := AM (blk_below (g := gb261) (o := .cells #[.slice none 0 0] 30 (0, 0)) (bk BK261) hb)
          have n11_ := AM (below_step (hS) hb)
          clear HO_226000
          clear HO_230000
          clear HO_239000
          clear HO252
          clear BK210
          clear BK211
          clear BK225
          clear BK229
          clear BK238
          clear BK261
          clear HB
          have HO_226000 := n0_
          have HO_230000 := n1_
          have HO_239000 := n2_
          have HO252 := n3_
          have HO259 := n4_
          have BK210 := n5_
          have BK211 := n6_
          have BK225 := n7_
          have BK229 := n8_
          have BK238 := n9_
          have BK261 := n10_
          have HB := n11_
          clear n0_ n1_ n2_ n3_ n4_ n5_ n6_ n7_ n8_ n9_ n10_ n11_
          (try clear hb)
          (try clear hb2)
          (try clear hk)
          (try clear hi)
          (try clear ho0)
          refine hK.out _ _ ⟨(blk_cell BK210.out 0).trans rfl, (blk_cell BK211.out 0).trans rfl, (blk_cell BK211.out 1).trans rfl, (blk_cell BK211.out 2).trans rfl, (blk_cell BK211.out 3).trans rfl⟩ (fun hHeld => ?_)
          clear hK K
          refine norm_ (a' := ?_) ?_ ?_
          rotate_left
          ·show Act.put _ (some 89) _ = _
           simp only [Act.put, qT, q0, qS, i64_w, i32_w]
           rfl
          refine pure_ (i := 5) (N := some 84) (v := ?_) (a' := ?_) #[true, true, true, true, true, true, false, false, true, false, false] rfl rfl (any_of HT_.out (by kernel_rfl)) (fun _ _ _ h => h) (Or.inl ⟨by rfl, ?_⟩) ?_ ?_
          rotate_left
          ·intro w'
           go_simp
           with_reducible rfl
          rotate_left
          ·simp only [Act.put, qT, q0, qS, i64_w, i32_w]
           rfl
          refine pure_ (i := 6) (N := some 90) (v := ?_) (a' := ?_) #[true, true, true, true, true, true, true, false, true, false, false] rfl rfl (any_of HT_.out (by kernel_rfl)) (fun _ _ _ h => h) (Or.inl ⟨by rfl, ?_⟩) ?_ ?_
          rotate_left
          ·intro w'
           go_simp
           with_reducible rfl
          rotate_left
          ·simp only [Act.put, qT, q0, qS, i64_w, i32_w]
           rfl
          refine pure_ (i := 7) (N := some 91) (v := ?_) (a' := ?_) #[true, true, true, true, true, true, true, true, true, false, false] rfl rfl (any_of HT_.out (by kernel_rfl)) (fun _ _ _ h => h) (Or.inl ⟨by rfl, ?_⟩) ?_ ?_
          rotate_left
          ·intro w'
           go_simp
           with_reducible rfl
          rotate_left
          ·simp only [Act.put, qT, q0, qS, i64_w, i32_w]
           rfl
          exact norm_ (by simp only [putAll, Act.put, qT, q0, qS]) (hCont (.slice Ao141 t250.length co141, v258, gb261) _ ⟨hHeld, (by exact Kd.R_mono HO252.out (fun _ hk => ⟨hk.2, ⟨hk.1.1.1.2, ⟨hk.1.1.2, hk.1.2⟩⟩⟩)), (by exact Kd.R_mono HO259.out (fun _ hk => ⟨hk.2, ⟨hk.1.1.1.2, ⟨hk.1.1.2, hk.1.2⟩⟩⟩)), (by exact Kd.R_mono HO_226000.out (fun _ hk => ⟨hk.1.2, ⟨hk.2, ⟨hk.1.1.1, hk.1.1.2⟩⟩⟩)), (by exact Kd.R_mono HO_230000.out (fun _ hk => ⟨hk.1.2, ⟨hk.2, ⟨hk.1.1.1, hk.1.1.2⟩⟩⟩)), (by exact Kd.R_mono HO_239000.out (fun _ hk => ⟨hk.1.2, ⟨hk.2, ⟨hk.1.1.1, hk.1.1.2⟩⟩⟩)), (bk BK210), (bk BK211), (bk BK225), (bk BK229), (bk BK238), (bk BK261), GW261.out, GE261.out, NB210_261.out, NB261_210.out, NB211_261.out, NB261_211.out, NB225_261.out, NB261_225.out, NB229_261.out, NB261_229.out, NB238_261.out, NB261_238.out, (hS)⟩)
         skip
         refine box_step ?hg (N := 14) ?hd (cs := #[.slice none 0 0]) (t := 30) ?hr ?_; (case hd => rfl); (case hg => rfl); (case hr => first | (go_simp; done) | (go_simp; rfl))
         intro gb261 hg w139 hbox hb
         have n0_ := AM (Kd.R_below (by exact HO_226000.out) hb)
         have n1_ := AM (Kd.R_below (by exact HO_230000.out) hb)
         have n2_ := AM (Kd.R_below (by exact HO_239000.out) hb)
         have n3_ := AM (Kd.R_below (by exact HO252.out) hb)
         have n4_ := AM (blk_below (g := gb210) (o := .cells #[.slice A0_0 l0_0.length c0_0] 24 (0, 0)) (bk BK210) hb)
         have n5_ := AM (blk_below (g := gb211) (o := .cells #[.int .i64 a1_0, .string a1_1, .string a1_2, .string a1_3] 37 (0, 0)) (bk BK211) hb)
         have n6_ := AM (blk_below (g := gb225) (o := .cells #[.slice Ao40 t221.length co40] 30 (0, 0)) (bk BK225) hb)
         have n7_ := AM (blk_below (g := gb229) (o := .cells #[.slice Ao46 t245.length co46] 30 (0, 0)) (bk BK229) hb)
         have n8_ := AM (blk_below (g := gb238) (o := .cells #[.slice Ao57 t234.length co57] 30 (0, 0)) (bk BK238) hb)
         have n9_ := AM (below_step (hS) hb)
         have n10_ := AM (hbox)
         have n11_ := AM ((by rw [hg]; exact (below_size (hS)) : w.heap.size ≤ gb261))
         have n12_ := AM ((by rw [hg]; exact (below_size (hS)) : w.heap.size ≤ gb261))
         have n13_ := AM ((by rw [hg]; exact Nat.ne_of_lt (blk_lt (g := gb210) (o := .cells #[.slice A0_0 l0_0.length c0_0] 24 (0, 0)) (bk BK210)) : gb210 ≠ gb261))
         have n14_ := AM ((by rw [hg]; exact Nat.ne_of_gt (blk_lt (g := gb210) (o := .cells #[.slice A0_0 l0_0.length c0_0] 24 (0, 0)) (bk BK210)) : gb261 ≠ gb210))
         have n15_ := AM ((by rw [hg]; exact Nat.ne_of_lt (blk_lt (g := gb211) (o := .cells #[.int .i64 a1_0, .string a1_1, .string a1_2, .string a1_3] 37 (0, 0)) (bk BK211)) : gb211 ≠ gb261))
         have n16_ := AM ((by rw [hg]; exact Nat.ne_of_gt (blk_lt (g := gb211) (o := .cells #[.int .i64 a1_0, .string a1_1, .string a1_2, .string a1_3] 37 (0, 0)) (bk BK211)) : gb261 ≠ gb211))
         have n17_ := AM ((by rw [hg]; exact Nat.ne_of_lt (blk_lt (g := gb225) (o := .cells #[.slice Ao40 t221.length co40] 30 (0, 0)) (bk BK225)) : gb225 ≠ gb261))
         have n18_ := AM ((by rw [hg]; exact Nat.ne_of_gt (blk_lt (g := gb225) (o := .cells #[.slice Ao40 t221.length co40] 30 (0, 0)) (bk BK225)) : gb261 ≠ gb225))
         have n19_ := AM ((by rw [hg]; exact Nat.ne_of_lt (blk_lt (g := gb229) (o := .cells #[.slice Ao46 t245.length co46] 30 (0, 0)) (bk BK229)) : gb229 ≠ gb261))
         have n20_ := AM ((by rw [hg]; exact Nat.ne_of_gt (blk_lt (g := gb229) (o := .cells #[.slice Ao46 t245.length co46] 30 (0, 0)) (bk BK229)) : gb261 ≠ gb229))
         have n21_ := AM ((by rw [hg]; exact Nat.ne_of_lt (blk_lt (g := gb238) (o := .cells #[.slice Ao57 t234.length co57] 30 (0, 0)) (bk BK238)) : gb238 ≠ gb261))
         have n22_ := AM ((by rw [hg]; exact Nat.ne_of_gt (blk_lt (g := gb238) (o := .cells #[.slice Ao57 t234.length co57] 30 (0, 0)) (bk BK238)) : gb261 ≠ gb238))
         clear HO_226000
         clear HO_230000
         clear HO_239000
         clear HO252
         clear BK210
         clear BK211
         clear BK225
         clear BK229
         clear BK238
         clear HB
         have HO_226000 := n0_
         have HO_230000 := n1_
         have HO_239000 := n2_
         have HO252 := n3_
         have BK210 := n4_
         have BK211 := n5_
         have BK225 := n6_
         have BK229 := n7_
         have BK238 := n8_
         have HB := n9_
         have BK261 := n10_
         have GW261 := n11_
         have GE261 := n12_
         have NB210_261 := n13_
         have NB261_210 := n14_
         have NB211_261 := n15_
         have NB261_211 := n16_
         have NB225_261 := n17_
         have NB261_225 := n18_
         have NB229_261 := n19_
         have NB261_229 := n20_
         have NB238_261 := n21_
         have NB261_238 := n22_
         clear n0_ n1_ n2_ n3_ n4_ n5_ n6_ n7_ n8_ n9_ n10_ n11_ n12_ n13_ n14_ n15_ n16_ n17_ n18_ n19_ n20_ n21_ n22_
         clear hb hbox hg
         refine hK.out _ _ ⟨(blk_cell BK210.out 0).trans rfl, (blk_cell BK211.out 0).trans rfl, (blk_cell BK211.out 1).trans rfl, (blk_cell BK211.out 2).trans rfl, (blk_cell BK211.out 3).trans rfl⟩ (fun hHeld => ?_)
         clear hK K
         refine norm_ (a' := ?_) ?_ ?_
         rotate_left
         ·show Act.put _ (some 14) _ = _
          simp only [Act.put, qT, q0, qS, i64_w, i32_w]
          rfl
         refine one_ (i := 3) (N := some 88) #[true, true, true, true, false, false, false, false, true, false, false] rfl rfl (one_of HT_.out (by kernel_rfl)) (by decide) (fun K hK => ?_)
         refine goes_ Try.func18 (by kernel_rfl) rfl #[.agg #[.int .i64 a1_0, .string a1_1, .string a1_2, .string a1_3]] (by rfl) rfl rfl (by (try simp only [List.map_toArray, List.map_cons, List.map_nil]); first | done | rfl) ?_
         with_reducible refine (laws_toAct.calls a1_0 a1_1 a1_2 a1_3 t253 t254 t255 t256 _ A126.out).mono ?_
         rintro e w140 ⟨rfl, hb⟩
         refine ⟨_, rfl, ?_⟩
         have n0_ := AM (Kd.R_below (by exact HO_226000.out) hb)
         have n1_ := AM (Kd.R_below (by exact HO_230000.out) hb)
         have n2_ := AM (Kd.R_below (by exact HO_239000.out) hb)
         have n3_ := AM (Kd.R_below (by exact HO252.out) hb)
         have n4_ := AM (blk_below (g := gb210) (o := .cells #[.slice A0_0 l0_0.length c0_0] 24 (0, 0)) (bk BK210) hb)
         have n5_ := AM (blk_below (g := gb211) (o := .cells #[.int .i64 a1_0, .string a1_1, .string a1_2, .string a1_3] 37 (0, 0)) (bk BK211) hb)
         have n6_ := AM (blk_below (g := gb225) (o := .cells #[.slice Ao40 t221.length co40] 30 (0, 0)) (bk BK225) hb)
         have n7_ := AM (blk_below (g := gb229) (o := .cells #[.slice Ao46 t245.length co46] 30 (0, 0)) (bk BK229) hb)
         have n8_ := AM (blk_below (g := gb238) (o := .cells #[.slice Ao57 t234.length co57] 30 (0, 0)) (bk BK238) hb)
         have n9_ := AM (blk_below (g := gb261) (o := .cells #[.slice none 0 0] 30 (0, 0)) (bk BK261) hb)
         have n10_ := AM (below_step (hS) hb)
         clear HO_226000
         clear HO_230000
         clear HO_239000
         clear HO252
         clear BK210
         clear BK211
         clear BK225
         clear BK229
         clear BK238
         clear BK261
         clear HB
         have HO_226000 := n0_
         have HO_230000 := n1_
         have HO_239000 := n2_
         have HO252 := n3_
         have BK210 := n4_
         have BK211 := n5_
         have BK225 := n6_
         have BK229 := n7_
         have BK238 := n8_
         have BK261 := n9_
         have HB := n10_
         clear n0_ n1_ n2_ n3_ n4_ n5_ n6_ n7_ n8_ n9_ n10_
         (try clear hb)
         (try clear hb2)
         (try clear hk)
         (try clear hi)
         obtain ⟨Ao141, co141, eo141⟩ := Kd.R_slice HO252.out
         (first | subst eo141 | (injection eo141 with f1_ f2_ f3_; have f4_ := f1_.symm; have f5_ := f3_.symm; clear f1_ f2_ f3_; subst f4_; subst f5_))
         refine hK.out _ _ ⟨(blk_cell BK210.out 0).trans rfl, (blk_cell BK211.out 0).trans rfl, (blk_cell BK211.out 1).trans rfl, (blk_cell BK211.out 2).trans rfl, (blk_cell BK211.out 3).trans rfl⟩ (fun hHeld => ?_)
         clear hK K
         refine norm_ (a' := ?_) ?_ ?_
         rotate_left
         ·show Act.put _ (some 88) _ = _
          simp only [Act.put, qT, q0, qS, i64_w, i32_w]
          rfl
         refine one_ (i := 4) (N := some 89) #[true, true, true, true, true, false, false, false, true, false, false] rfl rfl (one_of HT_.out (by kernel_rfl)) (by decide) (fun K hK => ?_)
         refine goes_ Try.func19 (by kernel_rfl) rfl #[.agg #[.slice Ao141 t250.length co141], .agg #[.int .i64 t253, .string t254, .string t255, .string t256]] (by rfl) rfl rfl (by (try simp only [List.map_toArray, List.map_cons, List.map_nil]); first | done | rfl) ?_
         with_reducible refine (impl_DoAct.calls kj85 _ _ t250 t253 t254 t255 t256 t257 t260 _ ?side1 ?side2 A127.out).mono ?_
         (case side1 => repeat (first | exact (Kd.R_reads' HO252.out).2.2 | (with_reducible refine Kd.C_alloc ?_ _) | (with_reducible refine Kd.C_drewN ?_ _) | (with_reducible refine Kd.C_drew ?_)))
         (case side2 => exact (Kd.R_reads' HO252.out).2.1)
         rintro e w142 ⟨v258, rfl, ho0, hb⟩
         refine ⟨_, rfl, ?_⟩
         have n0_ := AM (Kd.R_elder' (by exact HO_226000.out) (Kd.R_base ho0) hb)
         have n1_ := AM (Kd.R_elder' (by exact HO_230000.out) (Kd.R_base ho0) hb)
         have n2_ := AM (Kd.R_elder' (by exact HO_239000.out) (Kd.R_base ho0) hb)
         have n3_ := AM (Kd.R_elder' (by exact HO252.out) (Kd.R_base ho0) hb)
         have n4_ := AM (Kd.R_lower (Kd.R_new' (Kd.R_new' (Kd.R_new' (Kd.R_new' ho0 (Kd.R_lt (by exact HO_226000.out))) (Kd.R_lt (by exact HO_230000.out))) (Kd.R_lt (by exact HO_239000.out))) (Kd.R_lt (by exact HO252.out))) (below_size (hS)))
         have n5_ := AM (blk_below (g := gb210) (o := .cells #[.slice A0_0 l0_0.length c0_0] 24 (0, 0)) (bk BK210) hb)
         have n6_ := AM (blk_below (g := gb211) (o := .cells #[.int .i64 a1_0, .string a1_1, .string a1_2, .string a1_3] 37 (0, 0)) (bk BK211) hb)
         have n7_ := AM (blk_below (g := gb225) (o := .cells #[.slice Ao40 t221.length co40] 30 (0, 0)) (bk BK225) hb)
         have n8_ := AM (blk_below (g := gb229) (o := .cells #[.slice Ao46 t245.length co46] 30 (0, 0)) (bk BK229) hb)
         have n9_ := AM (blk_below (g := gb238) (o := .cells #[.slice Ao57 t234.length co57] 30 (0, 0)) (bk BK238) hb)
         have n10_ := AM (blk_below (g := gb261) (o := .cells #[.slice none 0 0] 30 (0, 0)) (bk BK261) hb)
         have n11_ := AM (below_step (hS) hb)
         clear HO_226000
         clear HO_230000
         clear HO_239000
         clear HO252
         clear BK210
         clear BK211
         clear BK225
         clear BK229
         clear BK238
         clear BK261
         clear HB
         have HO_226000 := n0_
         have HO_230000 := n1_
         have HO_239000 := n2_
         have HO252 := n3_
         have HO259 := n4_
         have BK210 := n5_
         have BK211 := n6_
         have BK225 := n7_
         have BK229 := n8_
         have BK238 := n9_
         have BK261 := n10_
         have HB := n11_
         clear n0_ n1_ n2_ n3_ n4_ n5_ n6_ n7_ n8_ n9_ n10_ n11_
         (try clear hb)
         (try clear hb2)
         (try clear hk)
         (try clear hi)
         (try clear ho0)
         refine hK.out _ _ ⟨(blk_cell BK210.out 0).trans rfl, (blk_cell BK211.out 0).trans rfl, (blk_cell BK211.out 1).trans rfl, (blk_cell BK211.out 2).trans rfl, (blk_cell BK211.out 3).trans rfl⟩ (fun hHeld => ?_)
         clear hK K
         refine norm_ (a' := ?_) ?_ ?_
         rotate_left
         ·show Act.put _ (some 89) _ = _
          simp only [Act.put, qT, q0, qS, i64_w, i32_w]
          rfl
         refine pure_ (i := 5) (N := some 84) (v := ?_) (a' := ?_) #[true, true, true, true, true, true, false, false, true, false, false] rfl rfl (any_of HT_.out (by kernel_rfl)) (fun _ _ _ h => h) (Or.inl ⟨by rfl, ?_⟩) ?_ ?_
         rotate_left
         ·intro w'
          go_simp
          with_reducible rfl
         rotate_left
         ·simp only [Act.put, qT, q0, qS, i64_w, i32_w]
          rfl
         refine pure_ (i := 6) (N := some 90) (v := ?_) (a' := ?_) #[true, true, true, true, true, true, true, false, true, false, false] rfl rfl (any_of HT_.out (by kernel_rfl)) (fun _ _ _ h => h) (Or.inl ⟨by rfl, ?_⟩) ?_ ?_
         rotate_left
         ·intro w'
          go_simp
          with_reducible rfl
         rotate_left
         ·simp only [Act.put, qT, q0, qS, i64_w, i32_w]
          rfl
         refine pure_ (i := 7) (N := some 91) (v := ?_) (a' := ?_) #[true, true, true, true, true, true, true, true, true, false, false] rfl rfl (any_of HT_.out (by kernel_rfl)) (fun _ _ _ h => h) (Or.inl ⟨by rfl, ?_⟩) ?_ ?_
         rotate_left
         ·intro w'
          go_simp
          with_reducible rfl
         rotate_left
         ·simp only [Act.put, qT, q0, qS, i64_w, i32_w]
          rfl
         exact norm_ (by simp only [putAll, Act.put, qT, q0, qS]) (hCont (.slice Ao141 t250.length co141, v258, gb261) _ ⟨hHeld, (by exact Kd.R_mono HO252.out (fun _ hk => ⟨hk.2, ⟨hk.1.1.1.2, ⟨hk.1.1.2, hk.1.2⟩⟩⟩)), (by exact Kd.R_mono HO259.out (fun _ hk => ⟨hk.2, ⟨hk.1.1.1.2, ⟨hk.1.1.2, hk.1.2⟩⟩⟩)), (by exact Kd.R_mono HO_226000.out (fun _ hk => ⟨hk.1.2, ⟨hk.2, ⟨hk.1.1.1, hk.1.1.2⟩⟩⟩)), (by exact Kd.R_mono HO_230000.out (fun _ hk => ⟨hk.1.2, ⟨hk.2, ⟨hk.1.1.1, hk.1.1.2⟩⟩⟩)), (by exact Kd.R_mono HO_239000.out (fun _ hk => ⟨hk.1.2, ⟨hk.2, ⟨hk.1.1.1, hk.1.1.2⟩⟩⟩)), (bk BK210), (bk BK211), (bk BK225), (bk BK229), (bk BK238), (bk BK261), GW261.out, GE261.out, NB210_261.out, NB261_210.out, NB211_261.out, NB261_211.out, NB225_261.out, NB261_225.out, NB229_261.out, NB261_229.out, NB238_261.out, NB261_238.out, (hS)⟩)
        skip
        refine box_step ?hg (N := 14) ?hd (cs := #[.slice none 0 0]) (t := 30) ?hr ?_; (case hd => rfl); (case hg => rfl); (case hr => first | (go_simp; done) | (go_simp; rfl))
        intro gb261 hg w138 hbox hb
        have n0_ := AM (Kd.R_below (by exact HO_226000.out) hb)
        have n1_ := AM (Kd.R_below (by exact HO_230000.out) hb)
        have n2_ := AM (Kd.R_below (by exact HO_239000.out) hb)
        have n3_ := AM (blk_below (g := gb210) (o := .cells #[.slice A0_0 l0_0.length c0_0] 24 (0, 0)) (bk BK210) hb)
        have n4_ := AM (blk_below (g := gb211) (o := .cells #[.int .i64 a1_0, .string a1_1, .string a1_2, .string a1_3] 37 (0, 0)) (bk BK211) hb)
        have n5_ := AM (blk_below (g := gb225) (o := .cells #[.slice Ao40 t221.length co40] 30 (0, 0)) (bk BK225) hb)
        have n6_ := AM (blk_below (g := gb229) (o := .cells #[.slice Ao46 t245.length co46] 30 (0, 0)) (bk BK229) hb)
        have n7_ := AM (blk_below (g := gb238) (o := .cells #[.slice Ao57 t234.length co57] 30 (0, 0)) (bk BK238) hb)
        have n8_ := AM (below_step (hS) hb)
        have n9_ := AM (hbox)
        have n10_ := AM ((by rw [hg]; exact (below_size (hS)) : w.heap.size ≤ gb261))
        have n11_ := AM ((by rw [hg]; exact (below_size (hS)) : w.heap.size ≤ gb261))
        have n12_ := AM ((by rw [hg]; exact Nat.ne_of_lt (blk_lt (g := gb210) (o := .cells #[.slice A0_0 l0_0.length c0_0] 24 (0, 0)) (bk BK210)) : gb210 ≠ gb261))
        have n13_ := AM ((by rw [hg]; exact Nat.ne_of_gt (blk_lt (g := gb210) (o := .cells #[.slice A0_0 l0_0.length c0_0] 24 (0, 0)) (bk BK210)) : gb261 ≠ gb210))
        have n14_ := AM ((by rw [hg]; exact Nat.ne_of_lt (blk_lt (g := gb211) (o := .cells #[.int .i64 a1_0, .string a1_1, .string a1_2, .string a1_3] 37 (0, 0)) (bk BK211)) : gb211 ≠ gb261))
        have n15_ := AM ((by rw [hg]; exact Nat.ne_of_gt (blk_lt (g := gb211) (o := .cells #[.int .i64 a1_0, .string a1_1, .string a1_2, .string a1_3] 37 (0, 0)) (bk BK211)) : gb261 ≠ gb211))
        have n16_ := AM ((by rw [hg]; exact Nat.ne_of_lt (blk_lt (g := gb225) (o := .cells #[.slice Ao40 t221.length co40] 30 (0, 0)) (bk BK225)) : gb225 ≠ gb261))
        have n17_ := AM ((by rw [hg]; exact Nat.ne_of_gt (blk_lt (g := gb225) (o := .cells #[.slice Ao40 t221.length co40] 30 (0, 0)) (bk BK225)) : gb261 ≠ gb225))
        have n18_ := AM ((by rw [hg]; exact Nat.ne_of_lt (blk_lt (g := gb229) (o := .cells #[.slice Ao46 t245.length co46] 30 (0, 0)) (bk BK229)) : gb229 ≠ gb261))
        have n19_ := AM ((by rw [hg]; exact Nat.ne_of_gt (blk_lt (g := gb229) (o := .cells #[.slice Ao46 t245.length co46] 30 (0, 0)) (bk BK229)) : gb261 ≠ gb229))
        have n20_ := AM ((by rw [hg]; exact Nat.ne_of_lt (blk_lt (g := gb238) (o := .cells #[.slice Ao57 t234.length co57] 30 (0, 0)) (bk BK238)) : gb238 ≠ gb261))
        have n21_ := AM ((by rw [hg]; exact Nat.ne_of_gt (blk_lt (g := gb238) (o := .cells #[.slice Ao57 t234.length co57] 30 (0, 0)) (bk BK238)) : gb261 ≠ gb238))
        clear HO_226000
        clear HO_230000
        clear HO_239000
        clear BK210
        clear BK211
        clear BK225
        clear BK229
        clear BK238
        clear HB
        have HO_226000 := n0_
        have HO_230000 := n1_
        have HO_239000 := n2_
        have BK210 := n3_
        have BK211 := n4_
        have BK225 := n5_
        have BK229 := n6_
        have BK238 := n7_
        have HB := n8_
        have BK261 := n9_
        have GW261 := n10_
        have GE261 := n11_
        have NB210_261 := n12_
        have NB261_210 := n13_
        have NB211_261 := n14_
        have NB261_211 := n15_
        have NB225_261 := n16_
        have NB261_225 := n17_
        have NB229_261 := n18_
        have NB261_229 := n19_
        have NB238_261 := n20_
        have NB261_238 := n21_
        clear n0_ n1_ n2_ n3_ n4_ n5_ n6_ n7_ n8_ n9_ n10_ n11_ n12_ n13_ n14_ n15_ n16_ n17_ n18_ n19_ n20_ n21_
        clear hb hbox hg
        refine hK.out _ _ ⟨(blk_cell BK210.out 0).trans rfl, (blk_cell BK211.out 0).trans rfl, (blk_cell BK211.out 1).trans rfl, (blk_cell BK211.out 2).trans rfl, (blk_cell BK211.out 3).trans rfl⟩ (fun hHeld => ?_)
        clear hK K
        refine norm_ (a' := ?_) ?_ ?_
        rotate_left
        ·show Act.put _ (some 14) _ = _
         simp only [Act.put, qT, q0, qS, i64_w, i32_w]
         rfl
        refine one_ (i := 1) (N := some 86) #[true, true, true, false, false, false, false, false, true, false, false] rfl rfl (one_of HT_.out (by kernel_rfl)) (by decide) (fun K hK => ?_)
        refine goes_ Try.func11 (by kernel_rfl) rfl #[.agg #[.slice A0_0 l0_0.length c0_0]] (by rfl) rfl rfl (by (try simp only [List.map_toArray, List.map_cons, List.map_nil]); first | done | rfl) ?_
        with_reducible refine (laws_toDisk.calls kj85 _ _ l0_0 t250 _ ?side1 ?side2 A125.out).mono ?_
        (case side1 => repeat (first | exact (Kd.C_below HR0_0.out HB.out) | (with_reducible refine Kd.C_alloc ?_ _) | (with_reducible refine Kd.C_drewN ?_ _) | (with_reducible refine Kd.C_drew ?_)))
        (case side2 => exact HC0_0.out)
        rintro e w139 ⟨v251, rfl, ho0, hb⟩
        refine ⟨_, rfl, ?_⟩
        have n0_ := AM (Kd.R_elder' (by exact HO_226000.out) (Kd.R_base ho0) hb)
        have n1_ := AM (Kd.R_elder' (by exact HO_230000.out) (Kd.R_base ho0) hb)
        have n2_ := AM (Kd.R_elder' (by exact HO_239000.out) (Kd.R_base ho0) hb)
        have n3_ := AM (Kd.R_lower (Kd.R_new' (Kd.R_new' (Kd.R_new' ho0 (Kd.R_lt (by exact HO_226000.out))) (Kd.R_lt (by exact HO_230000.out))) (Kd.R_lt (by exact HO_239000.out))) (below_size (hS)))
        have n4_ := AM (blk_below (g := gb210) (o := .cells #[.slice A0_0 l0_0.length c0_0] 24 (0, 0)) (bk BK210) hb)
        have n5_ := AM (blk_below (g := gb211) (o := .cells #[.int .i64 a1_0, .string a1_1, .string a1_2, .string a1_3] 37 (0, 0)) (bk BK211) hb)
        have n6_ := AM (blk_below (g := gb225) (o := .cells #[.slice Ao40 t221.length co40] 30 (0, 0)) (bk BK225) hb)
        have n7_ := AM (blk_below (g := gb229) (o := .cells #[.slice Ao46 t245.length co46] 30 (0, 0)) (bk BK229) hb)
        have n8_ := AM (blk_below (g := gb238) (o := .cells #[.slice Ao57 t234.length co57] 30 (0, 0)) (bk BK238) hb)
        have n9_ := AM (blk_below (g := gb261) (o := .cells #[.slice none 0 0] 30 (0, 0)) (bk BK261) hb)
        have n10_ := AM (below_step (hS) hb)
        clear HO_226000
        clear HO_230000
        clear HO_239000
        clear BK210
        clear BK211
        clear BK225
        clear BK229
        clear BK238
        clear BK261
        clear HB
        have HO_226000 := n0_
        have HO_230000 := n1_
        have HO_239000 := n2_
        have HO252 := n3_
        have BK210 := n4_
        have BK211 := n5_
        have BK225 := n6_
        have BK229 := n7_
        have BK238 := n8_
        have BK261 := n9_
        have HB := n10_
        clear n0_ n1_ n2_ n3_ n4_ n5_ n6_ n7_ n8_ n9_ n10_
        (try clear hb)
        (try clear hb2)
        (try clear hk)
        (try clear hi)
        (try clear ho0)
        refine hK.out _ _ ⟨(blk_cell BK210.out 0).trans rfl, (blk_cell BK211.out 0).trans rfl, (blk_cell BK211.out 1).trans rfl, (blk_cell BK211.out 2).trans rfl, (blk_cell BK211.out 3).trans rfl⟩ (fun hHeld => ?_)
        clear hK K
        refine norm_ (a' := ?_) ?_ ?_
        rotate_left
        ·show Act.put _ (some 86) _ = _
         simp only [Act.put, qT, q0, qS, i64_w, i32_w]
         rfl
        refine one_ (i := 3) (N := some 88) #[true, true, true, true, false, false, false, false, true, false, false] rfl rfl (one_of HT_.out (by kernel_rfl)) (by decide) (fun K hK => ?_)
        refine goes_ Try.func18 (by kernel_rfl) rfl #[.agg #[.int .i64 a1_0, .string a1_1, .string a1_2, .string a1_3]] (by rfl) rfl rfl (by (try simp only [List.map_toArray, List.map_cons, List.map_nil]); first | done | rfl) ?_
        with_reducible refine (laws_toAct.calls a1_0 a1_1 a1_2 a1_3 t253 t254 t255 t256 _ A126.out).mono ?_
        rintro e w140 ⟨rfl, hb⟩
        refine ⟨_, rfl, ?_⟩
        have n0_ := AM (Kd.R_below (by exact HO_226000.out) hb)
        have n1_ := AM (Kd.R_below (by exact HO_230000.out) hb)
        have n2_ := AM (Kd.R_below (by exact HO_239000.out) hb)
        have n3_ := AM (Kd.R_below (by exact HO252.out) hb)
        have n4_ := AM (blk_below (g := gb210) (o := .cells #[.slice A0_0 l0_0.length c0_0] 24 (0, 0)) (bk BK210) hb)
        have n5_ := AM (blk_below (g := gb211) (o := .cells #[.int .i64 a1_0, .string a1_1, .string a1_2, .string a1_3] 37 (0, 0)) (bk BK211) hb)
        have n6_ := AM (blk_below (g := gb225) (o := .cells #[.slice Ao40 t221.length co40] 30 (0, 0)) (bk BK225) hb)
        have n7_ := AM (blk_below (g := gb229) (o := .cells #[.slice Ao46 t245.length co46] 30 (0, 0)) (bk BK229) hb)
        have n8_ := AM (blk_below (g := gb238) (o := .cells #[.slice Ao57 t234.length co57] 30 (0, 0)) (bk BK238) hb)
        have n9_ := AM (blk_below (g := gb261) (o := .cells #[.slice none 0 0] 30 (0, 0)) (bk BK261) hb)
        have n10_ := AM (below_step (hS) hb)
        clear HO_226000
        clear HO_230000
        clear HO_239000
        clear HO252
        clear BK210
        clear BK211
        clear BK225
        clear BK229
        clear BK238
        clear BK261
        clear HB
        have HO_226000 := n0_
        have HO_230000 := n1_
        have HO_239000 := n2_
        have HO252 := n3_
        have BK210 := n4_
        have BK211 := n5_
        have BK225 := n6_
        have BK229 := n7_
        have BK238 := n8_
        have BK261 := n9_
        have HB := n10_
        clear n0_ n1_ n2_ n3_ n4_ n5_ n6_ n7_ n8_ n9_ n10_
        (try clear hb)
        (try clear hb2)
        (try clear hk)
        (try clear hi)
        obtain ⟨Ao141, co141, eo141⟩ := Kd.R_slice HO252.out
        (first | subst eo141 | (injection eo141 with f1_ f2_ f3_; have f4_ := f1_.symm; have f5_ := f3_.symm; clear f1_ f2_ f3_; subst f4_; subst f5_))
        refine hK.out _ _ ⟨(blk_cell BK210.out 0).trans rfl, (blk_cell BK211.out 0).trans rfl, (blk_cell BK211.out 1).trans rfl, (blk_cell BK211.out 2).trans rfl, (blk_cell BK211.out 3).trans rfl⟩ (fun hHeld => ?_)
        clear hK K
        refine norm_ (a' := ?_) ?_ ?_
        rotate_left
        ·show Act.put _ (some 88) _ = _
         simp only [Act.put, qT, q0, qS, i64_w, i32_w]
         rfl
        refine one_ (i := 4) (N := some 89) #[true, true, true, true, true, false, false, false, true, false, false] rfl rfl (one_of HT_.out (by kernel_rfl)) (by decide) (fun K hK => ?_)
        refine goes_ Try.func19 (by kernel_rfl) rfl #[.agg #[.slice Ao141 t250.length co141], .agg #[.int .i64 t253, .string t254, .string t255, .string t256]] (by rfl) rfl rfl (by (try simp only [List.map_toArray, List.map_cons, List.map_nil]); first | done | rfl) ?_
        with_reducible refine (impl_DoAct.calls kj85 _ _ t250 t253 t254 t255 t256 t257 t260 _ ?side1 ?side2 A127.out).mono ?_
        (case side1 => repeat (first | exact (Kd.R_reads' HO252.out).2.2 | (with_reducible refine Kd.C_alloc ?_ _) | (with_reducible refine Kd.C_drewN ?_ _) | (with_reducible refine Kd.C_drew ?_)))
        (case side2 => exact (Kd.R_reads' HO252.out).2.1)
        rintro e w142 ⟨v258, rfl, ho0, hb⟩
        refine ⟨_, rfl, ?_⟩
        have n0_ := AM (Kd.R_elder' (by exact HO_226000.out) (Kd.R_base ho0) hb)
        have n1_ := AM (Kd.R_elder' (by exact HO_230000.out) (Kd.R_base ho0) hb)
        have n2_ := AM (Kd.R_elder' (by exact HO_239000.out) (Kd.R_base ho0) hb)
        have n3_ := AM (Kd.R_elder' (by exact HO252.out) (Kd.R_base ho0) hb)
        have n4_ := AM (Kd.R_lower (Kd.R_new' (Kd.R_new' (Kd.R_new' (Kd.R_new' ho0 (Kd.R_lt (by exact HO_226000.out))) (Kd.R_lt (by exact HO_230000.out))) (Kd.R_lt (by exact HO_239000.out))) (Kd.R_lt (by exact HO252.out))) (below_size (hS)))
        have n5_ := AM (blk_below (g := gb210) (o := .cells #[.slice A0_0 l0_0.length c0_0] 24 (0, 0)) (bk BK210) hb)
        have n6_ := AM (blk_below (g := gb211) (o := .cells #[.int .i64 a1_0, .string a1_1, .string a1_2, .string a1_3] 37 (0, 0)) (bk BK211) hb)
        have n7_ := AM (blk_below (g := gb225) (o := .cells #[.slice Ao40 t221.length co40] 30 (0, 0)) (bk BK225) hb)
        have n8_ := AM (blk_below (g := gb229) (o := .cells #[.slice Ao46 t245.length co46] 30 (0, 0)) (bk BK229) hb)
        have n9_ := AM (blk_below (g := gb238) (o := .cells #[.slice Ao57 t234.length co57] 30 (0, 0)) (bk BK238) hb)
        have n10_ := AM (blk_below (g := gb261) (o := .cells #[.slice none 0 0] 30 (0, 0)) (bk BK261) hb)
        have n11_ := AM (below_step (hS) hb)
        clear HO_226000
        clear HO_230000
        clear HO_239000
        clear HO252
        clear BK210
        clear BK211
        clear BK225
        clear BK229
        clear BK238
        clear BK261
        clear HB
        have HO_226000 := n0_
        have HO_230000 := n1_
        have HO_239000 := n2_
        have HO252 := n3_
        have HO259 := n4_
        have BK210 := n5_
        have BK211 := n6_
        have BK225 := n7_
        have BK229 := n8_
        have BK238 := n9_
        have BK261 := n10_
        have HB := n11_
        clear n0_ n1_ n2_ n3_ n4_ n5_ n6_ n7_ n8_ n9_ n10_ n11_
        (try clear hb)
        (try clear hb2)
        (try clear hk)
        (try clear hi)
        (try clear ho0)
        refine hK.out _ _ ⟨(blk_cell BK210.out 0).trans rfl, (blk_cell BK211.out 0).trans rfl, (blk_cell BK211.out 1).trans rfl, (blk_cell BK211.out 2).trans rfl, (blk_cell BK211.out 3).trans rfl⟩ (fun hHeld => ?_)
        clear hK K
        refine norm_ (a' := ?_) ?_ ?_
        rotate_left
        ·show Act.put _ (some 89) _ = _
         simp only [Act.put, qT, q0, qS, i64_w, i32_w]
         rfl
        refine pure_ (i := 5) (N := some 84) (v := ?_) (a' := ?_) #[true, true, true, true, true, true, false, false, true, false, false] rfl rfl (any_of HT_.out (by kernel_rfl)) (fun _ _ _ h => h) (Or.inl ⟨by rfl, ?_⟩) ?_ ?_
        rotate_left
        ·intro w'
         go_simp
         with_reducible rfl
        rotate_left
        ·simp only [Act.put, qT, q0, qS, i64_w, i32_w]
         rfl
        refine pure_ (i := 6) (N := some 90) (v := ?_) (a' := ?_) #[true, true, true, true, true, true, true, false, true, false, false] rfl rfl (any_of HT_.out (by kernel_rfl)) (fun _ _ _ h => h) (Or.inl ⟨by rfl, ?_⟩) ?_ ?_
        rotate_left
        ·intro w'
         go_simp
         with_reducible rfl
        rotate_left
        ·simp only [Act.put, qT, q0, qS, i64_w, i32_w]
         rfl
        refine pure_ (i := 7) (N := some 91) (v := ?_) (a' := ?_) #[true, true, true, true, true, true, true, true, true, false, false] rfl rfl (any_of HT_.out (by kernel_rfl)) (fun _ _ _ h => h) (Or.inl ⟨by rfl, ?_⟩) ?_ ?_
        rotate_left
        ·intro w'
         go_simp
         with_reducible rfl
        rotate_left
        ·simp only [Act.put, qT, q0, qS, i64_w, i32_w]
         rfl
        exact norm_ (by simp only [putAll, Act.put, qT, q0, qS]) (hCont (.slice Ao141 t250.length co141, v258, gb261) _ ⟨hHeld, (by exact Kd.R_mono HO252.out (fun _ hk => ⟨hk.2, ⟨hk.1.1.1.2, ⟨hk.1.1.2, hk.1.2⟩⟩⟩)), (by exact Kd.R_mono HO259.out (fun _ hk => ⟨hk.2, ⟨hk.1.1.1.2, ⟨hk.1.1.2, hk.1.2⟩⟩⟩)), (by exact Kd.R_mono HO_226000.out (fun _ hk => ⟨hk.1.2, ⟨hk.2, ⟨hk.1.1.1, hk.1.1.2⟩⟩⟩)), (by exact Kd.R_mono HO_230000.out (fun _ hk => ⟨hk.1.2, ⟨hk.2, ⟨hk.1.1.1, hk.1.1.2⟩⟩⟩)), (by exact Kd.R_mono HO_239000.out (fun _ hk => ⟨hk.1.2, ⟨hk.2, ⟨hk.1.1.1, hk.1.1.2⟩⟩⟩)), (bk BK210), (bk BK211), (bk BK225), (bk BK229), (bk BK238), (bk BK261), GW261.out, GE261.out, NB210_261.out, NB261_210.out, NB211_261.out, NB261_211.out, NB225_261.out, NB261_225.out, NB229_261.out, NB261_229.out, NB238_261.out, NB261_238.out, (hS)⟩)
       rintro ⟨v251, v258, gb261⟩ w143 ⟨hS_, h0_, h1_, h2_, h3_, h4_, h5_, h6_, h7_, h8_, h9_, h10_, h11_, h12_, h13_, h14_, h15_, h16_, h17_, h18_, h19_, h20_, h21_, h22_, h23_⟩
       have n0_ : Aside0 (Kd.R k67 67 w143 w.heap.size (fun k_ => some k_ ≠ (v258 : Value).ownBlock ∧ some k_ ≠ (.slice Ao40 t221.length co40 : Value).ownBlock ∧ some k_ ≠ (.slice Ao46 t245.length co46 : Value).ownBlock ∧ some k_ ≠ (.slice Ao57 t234.length co57 : Value).ownBlock) v251 t250) := ⟨h0_⟩
       have n1_ : Aside0 (Kd.R k67 67 w143 w.heap.size (fun k_ => some k_ ≠ (v251 : Value).ownBlock ∧ some k_ ≠ (.slice Ao40 t221.length co40 : Value).ownBlock ∧ some k_ ≠ (.slice Ao46 t245.length co46 : Value).ownBlock ∧ some k_ ≠ (.slice Ao57 t234.length co57 : Value).ownBlock) v258 t257) := ⟨h1_⟩
       have n2_ : Aside0 (Kd.R k67 67 w143 w.heap.size (fun k_ => some k_ ≠ (v251 : Value).ownBlock ∧ some k_ ≠ (v258 : Value).ownBlock ∧ some k_ ≠ (.slice Ao46 t245.length co46 : Value).ownBlock ∧ some k_ ≠ (.slice Ao57 t234.length co57 : Value).ownBlock) (.slice Ao40 t221.length co40) t221) := ⟨h2_⟩
       have n3_ : Aside0 (Kd.R k67 67 w143 w.heap.size (fun k_ => some k_ ≠ (v251 : Value).ownBlock ∧ some k_ ≠ (v258 : Value).ownBlock ∧ some k_ ≠ (.slice Ao40 t221.length co40 : Value).ownBlock ∧ some k_ ≠ (.slice Ao57 t234.length co57 : Value).ownBlock) (.slice Ao46 t245.length co46) t245) := ⟨h3_⟩
       have n4_ : Aside0 (Kd.R k67 67 w143 w.heap.size (fun k_ => some k_ ≠ (v251 : Value).ownBlock ∧ some k_ ≠ (v258 : Value).ownBlock ∧ some k_ ≠ (.slice Ao40 t221.length co40 : Value).ownBlock ∧ some k_ ≠ (.slice Ao46 t245.length co46 : Value).ownBlock) (.slice Ao57 t234.length co57) t248) := ⟨h4_⟩
       have n5_ : Aside0 (w143.heap[gb210]? = some (.cells #[.slice A0_0 l0_0.length c0_0] 24 (0, 0))) := ⟨h5_⟩
       have n6_ : Aside0 (w143.heap[gb211]? = some (.cells #[.int .i64 a1_0, .string a1_1, .string a1_2, .string a1_3] 37 (0, 0))) := ⟨h6_⟩
       have n7_ : Aside0 (w143.heap[gb225]? = some (.cells #[.slice Ao40 t221.length co40] 30 (0, 0))) := ⟨h7_⟩
       have n8_ : Aside0 (w143.heap[gb229]? = some (.cells #[.slice Ao46 t245.length co46] 30 (0, 0))) := ⟨h8_⟩
       have n9_ : Aside0 (w143.heap[gb238]? = some (.cells #[.slice Ao57 t234.length co57] 30 (0, 0))) := ⟨h9_⟩
       have n10_ : Aside0 (w143.heap[gb261]? = some (.cells #[.slice none 0 0] 30 (0, 0))) := ⟨h10_⟩
       have n11_ : Aside0 (w.heap.size ≤ gb261) := ⟨h11_⟩
       have n12_ : Aside0 (w.heap.size ≤ gb261) := ⟨h12_⟩
       have n13_ : Aside0 (gb210 ≠ gb261) := ⟨h13_⟩
       have n14_ : Aside0 (gb261 ≠ gb210) := ⟨h14_⟩
       have n15_ : Aside0 (gb211 ≠ gb261) := ⟨h15_⟩
       have n16_ : Aside0 (gb261 ≠ gb211) := ⟨h16_⟩
       have n17_ : Aside0 (gb225 ≠ gb261) := ⟨h17_⟩
       have n18_ : Aside0 (gb261 ≠ gb225) := ⟨h18_⟩
       have n19_ : Aside0 (gb229 ≠ gb261) := ⟨h19_⟩
       have n20_ : Aside0 (gb261 ≠ gb229) := ⟨h20_⟩
       have n21_ : Aside0 (gb238 ≠ gb261) := ⟨h21_⟩
       have n22_ : Aside0 (gb261 ≠ gb238) := ⟨h22_⟩
       have n23_ : Aside0 (Below w.heap.size w w143) := ⟨h23_⟩
       clear HO_226000
       clear HO_230000
       clear HO_239000
       clear BK210
       clear BK211
       clear BK225
       clear BK229
       clear BK238
       clear HB
       clear h0_ h1_ h2_ h3_ h4_ h5_ h6_ h7_ h8_ h9_ h10_ h11_ h12_ h13_ h14_ h15_ h16_ h17_ h18_ h19_ h20_ h21_ h22_ h23_
       have HO252 := n0_
       have HO259 := n1_
       have HO_226000 := n2_
       have HO_230000 := n3_
       have HO_239000 := n4_
       have BK210 := n5_
       have BK211 := n6_
       have BK225 := n7_
       have BK229 := n8_
       have BK238 := n9_
       have BK261 := n10_
       have GW261 := n11_
       have GE261 := n12_
       have NB210_261 := n13_
       have NB261_210 := n14_
       have NB211_261 := n15_
       have NB261_211 := n16_
       have NB225_261 := n17_
       have NB261_225 := n18_
       have NB229_261 := n19_
       have NB261_229 := n20_
       have NB238_261 := n21_
       have NB261_238 := n22_
       have HB := n23_
       clear n0_ n1_ n2_ n3_ n4_ n5_ n6_ n7_ n8_ n9_ n10_ n11_ n12_ n13_ n14_ n15_ n16_ n17_ n18_ n19_ n20_ n21_ n22_ n23_
       have hHeld : w143.cell? ⟨gb210, 0, none⟩ = some (.slice A0_0 l0_0.length c0_0) ∧ w143.cell? ⟨gb211, 0, none⟩ = some (.int .i64 a1_0) ∧ w143.cell? ⟨gb211, 1, none⟩ = some (.string a1_1) ∧ w143.cell? ⟨gb211, 2, none⟩ = some (.string a1_2) ∧ w143.cell? ⟨gb211, 3, none⟩ = some (.string a1_3) := hS_
       obtain ⟨Ao144, co144, eo144⟩ := Kd.R_slice HO259.out
       (first | subst eo144 | (injection eo144 with f1_ f2_ f3_; have f4_ := f1_.symm; have f5_ := f3_.symm; clear f1_ f2_ f3_; subst f4_; subst f5_))
       refine norm_ (a' := ?_) ?_ ?_
       rotate_left
       ·simp only [putAll, Act.put, qT, q0, qS]
        rfl
       refine one_ (i := 9) (N := none) #[true, true, true, true, true, true, true, true, true, true, false] rfl rfl (one_of HT_.out (by kernel_rfl)) (by decide) (fun K hK => ?_)
       have hs145 : w143.cell? ⟨gb261, 0, none⟩ = some (.slice none 0 0) := (blk_cell BK261.out 0).trans rfl
       have hfs145 := blk_frozen BK261.out 0
       have hns145_0 := NB210_261.out
       have hns145_1 := NB211_261.out
       have hns145_2 := NB225_261.out
       have hns145_3 := NB229_261.out
       have hns145_4 := NB238_261.out
       have hms145_0 := NB261_210.out
       have hms145_1 := NB261_211.out
       have hms145_2 := NB261_225.out
       have hms145_3 := NB261_229.out
       have hms145_4 := NB261_238.out
       refine skip_ (w1 := ?_) (by rfl) rfl ?_ ?_
       rotate_left
       ·go_simp
        rfl
       refine hK.out _ _ ⟨((cell_far (p := ⟨gb261, _, none⟩) NB210_261.out _).trans (hHeld.1)), ((cell_far (p := ⟨gb261, _, none⟩) NB211_261.out _).trans (hHeld.2.1)), ((cell_far (p := ⟨gb261, _, none⟩) NB211_261.out _).trans (hHeld.2.2.1)), ((cell_far (p := ⟨gb261, _, none⟩) NB211_261.out _).trans (hHeld.2.2.2.1)), ((cell_far (p := ⟨gb261, _, none⟩) NB211_261.out _).trans (hHeld.2.2.2.2))⟩ (fun hHeld => ?_)
       clear hK K
       refine pure_ (i := 10) (N := some 15) (v := ?_) (a' := ?_) #[true, true, true, true, true, true, true, true, true, true, true] rfl rfl (any_of HT_.out (by kernel_rfl)) (fun _ _ _ h => h) (Or.inl ⟨by rfl, ?_⟩) ?_ ?_
       rotate_left
       ·intro w'
        go_simp
        with_reducible rfl
       rotate_left
       ·simp only [Act.put, qT, q0, qS, i64_w, i32_w]
        rfl
       refine done_ (done_of HT_.out (by kernel_rfl)) ?_
       go_upto_region 28 with (fail)
       go_cut [100] (fun v100 wc => ∃ (kq : Nat) (x100_127 : Bool), v100 = .bool x100_127 ∧ Aside0 (laws_FnExactDoAct.j2 kq t247 x100_127 t248 = some r) ∧ Aside0 (kq ≤ kj85) ∧ Aside0 (Kd.R k67 67 wc w.heap.size (fun k_ => some k_ ≠ ((.slice Ao46 t245.length co46) : Value).ownBlock ∧ some k_ ≠ ((.slice Ao57 t234.length co57) : Value).ownBlock ∧ some k_ ≠ ((.slice Ao144 t257.length co144) : Value).ownBlock) (.slice Ao40 t221.length co40) t221) ∧ Aside0 (Kd.R k67 67 wc w.heap.size (fun k_ => some k_ ≠ ((.slice Ao40 t221.length co40) : Value).ownBlock ∧ some k_ ≠ ((.slice Ao57 t234.length co57) : Value).ownBlock ∧ some k_ ≠ ((.slice Ao144 t257.length co144) : Value).ownBlock) (.slice Ao46 t245.length co46) t245) ∧ Aside0 (Kd.R k67 67 wc w.heap.size (fun k_ => some k_ ≠ ((.slice Ao40 t221.length co40) : Value).ownBlock ∧ some k_ ≠ ((.slice Ao46 t245.length co46) : Value).ownBlock ∧ some k_ ≠ ((.slice Ao144 t257.length co144) : Value).ownBlock) (.slice Ao57 t234.length co57) t248) ∧ Aside0 (Kd.R k67 67 wc w.heap.size (fun k_ => some k_ ≠ ((.slice Ao40 t221.length co40) : Value).ownBlock ∧ some k_ ≠ ((.slice Ao46 t245.length co46) : Value).ownBlock ∧ some k_ ≠ ((.slice Ao57 t234.length co57) : Value).ownBlock) (.slice Ao144 t257.length co144) t257) ∧ Aside0 (wc.heap[gb210]? = some (.cells #[(.slice A0_0 l0_0.length c0_0)] 24 (0, 0))) ∧ Aside0 (wc.heap[gb211]? = some (.cells #[.int .i64 a1_0, .string a1_1, .string a1_2, .string a1_3] 37 (0, 0))) ∧ Aside0 (wc.heap[gb225]? = some (.cells #[(.slice Ao40 t221.length co40)] 30 (0, 0))) ∧ Aside0 (wc.heap[gb229]? = some (.cells #[(.slice Ao46 t245.length co46)] 30 (0, 0))) ∧ Aside0 (wc.heap[gb238]? = some (.cells #[(.slice Ao57 t234.length co57)] 30 (0, 0))) ∧ Aside0 (wc.heap[gb261]? = some (.cells #[(.slice Ao144 t257.length co144)] 30 (0, 0))) ∧ Aside0 (Below w.heap.size w wc))
       case first =>
        have H := HC128.out
        clear HC128
        replace H := bm H
        obtain ⟨t262, A1460, H⟩ := H
        replace H : (if t262 = true then (laws_FnExactDoAct.j2 kj85 t247 (t260 != t224) t248) else (laws_FnExactDoAct.j2 kj85 t247 true t248)) = some r := H
        have A146 := AM A1460
        clear A1460
        by_cases c147 : t262 = true
        ·subst c147
         have H1 : (laws_FnExactDoAct.j2 kj85 t247 (t260 != t224) t248) = some r := by rw [if_pos rfl] at H; exact H
         clear H
         have H := H1
         clear H1
         have H' := AM H
         clear H
         have hnb148 := NB261_210.out
         have hnc148 := NB210_261.out
         have hnb149 := NB261_211.out
         have hnc149 := NB211_261.out
         have hnb150 := NB261_225.out
         have hnc150 := NB225_261.out
         have hnb151 := NB261_229.out
         have hnc151 := NB229_261.out
         have hnb152 := NB261_238.out
         have hnc152 := NB238_261.out
         have hcz153_0 : w143.cell? ⟨gb261, 0, none⟩ = some (.slice none 0 0) := (blk_cell BK261.out 0).trans rfl
         have hfz153_0 := blk_frozen BK261.out 0
         have hnb154 := NB225_210.out
         have hnc154 := NB210_225.out
         have hnb155 := NB225_211.out
         have hnc155 := NB211_225.out
         have hnb156 := NB225_229.out
         have hnc156 := NB229_225.out
         have hnb157 := NB225_238.out
         have hnc157 := NB238_225.out
         have hcz158_0 : w143.cell? ⟨gb225, 0, none⟩ = some (.slice Ao40 t221.length co40) := (blk_cell BK225.out 0).trans rfl
         have hfz158_0 := blk_frozen BK225.out 0
         go_wp2_with (first | ((with_reducible refine gate_callee (f := 13) rfl ?_); refine goesL_ (some 94) rfl rfl Try.func13 (by kernel_rfl) rfl #[.agg #[.slice Ao144 t257.length co144], .agg #[.slice Ao40 t221.length co40]] rfl (by (try simp only [List.map_toArray, List.map_cons, List.map_nil]); first | done | rfl) ?_; (with_reducible refine (laws_eqDisk.calls kj85 _ _ t257 _ _ t221 true _ ?side1 ?side2 ?side3 ?side4 A146.out).mono ?_); (case side1 => refine (Kd.R_reads' (e := 67) (base := w.heap.size) (ok := fun k_ => (some k_ ≠ (v251 : Value).ownBlock ∧ (some k_ ≠ (.slice Ao40 t221.length co40 : Value).ownBlock ∧ (some k_ ≠ (.slice Ao46 t245.length co46 : Value).ownBlock ∧ some k_ ≠ (.slice Ao57 t234.length co57 : Value).ownBlock)))) (n := t257.length) (c := co144) ?_).2.2; exact (by exact (Kd.R_mono (Kd.R_far (p := ⟨gb261, 0, none⟩) (Kd.R_types HO259.out BK261.out (by decide)) (fun _ hk => hk.2) (.slice Ao144 t257.length co144)) (fun _ h_ => h_.1)))); (case side2 => exact (Kd.R_reads' HO259.out).2.1); (case side3 => refine (Kd.R_reads' (e := 67) (base := w.heap.size) (ok := fun k_ => (some k_ ≠ (v251 : Value).ownBlock ∧ (some k_ ≠ (.slice Ao144 t257.length co144 : Value).ownBlock ∧ (some k_ ≠ (.slice Ao46 t245.length co46 : Value).ownBlock ∧ some k_ ≠ (.slice Ao57 t234.length co57 : Value).ownBlock)))) (n := t221.length) (c := co40) ?_).2.2; exact (by exact (Kd.R_mono (Kd.R_far (p := ⟨gb261, 0, none⟩) (Kd.R_types HO_226000.out BK261.out (by decide)) (fun _ hk => hk.2) (.slice Ao144 t257.length co144)) (fun _ h_ => h_.1)))); (case side4 => exact (Kd.R_reads' HO_226000.out).2.1); rintro e w159 ⟨rfl, hb⟩; refine ⟨_, rfl, ?_⟩; have n0_ := AM (Kd.R_below (by exact (Kd.R_mono (Kd.R_far (p := ⟨gb261, 0, none⟩) (Kd.R_types HO_226000.out BK261.out (by decide)) (fun _ hk => hk.2) (.slice Ao144 t257.length co144)) (fun _ h_ => h_.1))) hb); have n1_ := AM (Kd.R_below (by exact (Kd.R_mono (Kd.R_far (p := ⟨gb261, 0, none⟩) (Kd.R_types HO_230000.out BK261.out (by decide)) (fun _ hk => hk.2) (.slice Ao144 t257.length co144)) (fun _ h_ => h_.1))) hb); have n2_ := AM (Kd.R_below (by exact (Kd.R_mono (Kd.R_far (p := ⟨gb261, 0, none⟩) (Kd.R_types HO_239000.out BK261.out (by decide)) (fun _ hk => hk.2) (.slice Ao144 t257.length co144)) (fun _ h_ => h_.1))) hb); have n3_ := AM (Kd.R_below (by exact (Kd.R_mono (Kd.R_far (p := ⟨gb261, 0, none⟩) (Kd.R_types HO252.out BK261.out (by decide)) (fun _ hk => hk.2) (.slice Ao144 t257.length co144)) (fun _ h_ => h_.1))) hb); have n4_ := AM (Kd.R_below (by exact (Kd.R_mono (Kd.R_far (p := ⟨gb261, 0, none⟩) (Kd.R_types HO259.out BK261.out (by decide)) (fun _ hk => hk.2) (.slice Ao144 t257.length co144)) (fun _ h_ => h_.1))) hb); have n5_ := AM (blk_below (g := gb210) (o := .cells #[.slice A0_0 l0_0.length c0_0] 24 (0, 0)) (by (with_reducible repeat (first | refine blk_drewN ?_ _ | refine blk_drew ?_ | refine blk_alloc ?_ _)); refine blk_far ?_ NB210_261.out _; (with_reducible repeat (first | refine blk_drewN ?_ _ | refine blk_drew ?_ | refine blk_alloc ?_ _)); exact BK210.out) hb); have n6_ := AM (blk_below (g := gb211) (o := .cells #[.int .i64 a1_0, .string a1_1, .string a1_2, .string a1_3] 37 (0, 0)) (by (with_reducible repeat (first | refine blk_drewN ?_ _ | refine blk_drew ?_ | refine blk_alloc ?_ _)); refine blk_far ?_ NB211_261.out _; (with_reducible repeat (first | refine blk_drewN ?_ _ | refine blk_drew ?_ | refine blk_alloc ?_ _)); exact BK211.out) hb); have n7_ := AM (blk_below (g := gb225) (o := .cells #[.slice Ao40 t221.length co40] 30 (0, 0)) (by (with_reducible repeat (first | refine blk_drewN ?_ _ | refine blk_drew ?_ | refine blk_alloc ?_ _)); refine blk_far ?_ NB225_261.out _; (with_reducible repeat (first | refine blk_drewN ?_ _ | refine blk_drew ?_ | refine blk_alloc ?_ _)); exact BK225.out) hb); have n8_ := AM (blk_below (g := gb229) (o := .cells #[.slice Ao46 t245.length co46] 30 (0, 0)) (by (with_reducible repeat (first | refine blk_drewN ?_ _ | refine blk_drew ?_ | refine blk_alloc ?_ _)); refine blk_far ?_ NB229_261.out _; (with_reducible repeat (first | refine blk_drewN ?_ _ | refine blk_drew ?_ | refine blk_alloc ?_ _)); exact BK229.out) hb); have n9_ := AM (blk_below (g := gb238) (o := .cells #[.slice Ao57 t234.length co57] 30 (0, 0)) (by (with_reducible repeat (first | refine blk_drewN ?_ _ | refine blk_drew ?_ | refine blk_alloc ?_ _)); refine blk_far ?_ NB238_261.out _; (with_reducible repeat (first | refine blk_drewN ?_ _ | refine blk_drew ?_ | refine blk_alloc ?_ _)); exact BK238.out) hb); have n10_ := AM (blk_below (g := gb261) (o := .cells #[.slice Ao144 t257.length co144] 30 (0, 0)) (by (with_reducible repeat (first | refine blk_drewN ?_ _ | refine blk_drew ?_ | refine blk_alloc ?_ _)); refine blk_put (cs := #[.slice none 0 0]) ?_ 0 _ rfl; (with_reducible repeat (first | refine blk_drewN ?_ _ | refine blk_drew ?_ | refine blk_alloc ?_ _)); exact BK261.out) hb); have n11_ := AM (below_step (hS) hb); clear HO_226000; clear HO_230000; clear HO_239000; clear HO252; clear HO259; clear BK210; clear BK211; clear BK225; clear BK229; clear BK238; clear BK261; clear HB; have HO_226000 := n0_; have HO_230000 := n1_; have HO_239000 := n2_; have HO252 := n3_; have HO259 := n4_; have BK210 := n5_; have BK211 := n6_; have BK225 := n7_; have BK229 := n8_; have BK238 := n9_; have BK261 := n10_; have HB := n11_; clear n0_ n1_ n2_ n3_ n4_ n5_ n6_ n7_ n8_ n9_ n10_ n11_; (try clear hb); (try clear hk)))
         go_meet
         case rel => exact ⟨_, ((t260 != t224)), (by first | rfl | (simp; done) | (simp [*]; done)), H', ⟨by have := HJ24.out; have := HJ85.out; first | omega | exact Nat.le_refl _⟩, ⟨by (try simp only [hl230000_85]); exact Kd.R_mono HO_226000.out (fun _ hk => ⟨hk.2.2.1, ⟨hk.2.2.2, hk.2.1⟩⟩)⟩, ⟨by (try simp only [hl230000_85]); exact Kd.R_mono HO_230000.out (fun _ hk => ⟨hk.2.2.1, ⟨hk.2.2.2, hk.2.1⟩⟩)⟩, ⟨by (try simp only [hl230000_85]); exact Kd.R_mono HO_239000.out (fun _ hk => ⟨hk.2.2.1, ⟨hk.2.2.2, hk.2.1⟩⟩)⟩, ⟨by (try simp only [hl230000_85]); exact Kd.R_mono HO259.out (fun _ hk => ⟨hk.2.1, ⟨hk.2.2.1, hk.2.2.2⟩⟩)⟩, ⟨by (try simp only [hl230000_85]); (with_reducible repeat (first | refine blk_drewN ?_ _ | refine blk_drew ?_ | refine blk_alloc ?_ _)); exact BK210.out⟩, ⟨by (try simp only [hl230000_85]); (with_reducible repeat (first | refine blk_drewN ?_ _ | refine blk_drew ?_ | refine blk_alloc ?_ _)); exact BK211.out⟩, ⟨by (try simp only [hl230000_85]); (with_reducible repeat (first | refine blk_drewN ?_ _ | refine blk_drew ?_ | refine blk_alloc ?_ _)); exact BK225.out⟩, ⟨by (try simp only [hl230000_85]); (with_reducible repeat (first | refine blk_drewN ?_ _ | refine blk_drew ?_ | refine blk_alloc ?_ _)); exact BK229.out⟩, ⟨by (try simp only [hl230000_85]); (with_reducible repeat (first | refine blk_drewN ?_ _ | refine blk_drew ?_ | refine blk_alloc ?_ _)); exact BK238.out⟩, ⟨by (try simp only [hl230000_85]); (with_reducible repeat (first | refine blk_drewN ?_ _ | refine blk_drew ?_ | refine blk_alloc ?_ _)); exact BK261.out⟩, ⟨hS⟩⟩
        replace c147 := Bool.eq_false_iff.mpr c147
        subst c147
        have H1 : (laws_FnExactDoAct.j2 kj85 t247 true t248) = some r := by rw [if_neg (show ¬ (false = true) by decide)] at H; exact H
        clear H
        have H := H1
        clear H1
        have H' := AM H
        clear H
        have hnb160 := NB261_210.out
        have hnc160 := NB210_261.out
        have hnb161 := NB261_211.out
        have hnc161 := NB211_261.out
        have hnb162 := NB261_225.out
        have hnc162 := NB225_261.out
        have hnb163 := NB261_229.out
        have hnc163 := NB229_261.out
        have hnb164 := NB261_238.out
        have hnc164 := NB238_261.out
        have hcz165_0 : w143.cell? ⟨gb261, 0, none⟩ = some (.slice none 0 0) := (blk_cell BK261.out 0).trans rfl
        have hfz165_0 := blk_frozen BK261.out 0
        have hnb166 := NB225_210.out
        have hnc166 := NB210_225.out
        have hnb167 := NB225_211.out
        have hnc167 := NB211_225.out
        have hnb168 := NB225_229.out
        have hnc168 := NB229_225.out
        have hnb169 := NB225_238.out
        have hnc169 := NB238_225.out
        have hcz170_0 : w143.cell? ⟨gb225, 0, none⟩ = some (.slice Ao40 t221.length co40) := (blk_cell BK225.out 0).trans rfl
        have hfz170_0 := blk_frozen BK225.out 0
        go_wp2_with (first | ((with_reducible refine gate_callee (f := 13) rfl ?_); refine goesL_ (some 94) rfl rfl Try.func13 (by kernel_rfl) rfl #[.agg #[.slice Ao144 t257.length co144], .agg #[.slice Ao40 t221.length co40]] rfl (by (try simp only [List.map_toArray, List.map_cons, List.map_nil]); first | done | rfl) ?_; (with_reducible refine (laws_eqDisk.calls kj85 _ _ t257 _ _ t221 false _ ?side1 ?side2 ?side3 ?side4 A146.out).mono ?_); (case side1 => refine (Kd.R_reads' (e := 67) (base := w.heap.size) (ok := fun k_ => (some k_ ≠ (v251 : Value).ownBlock ∧ (some k_ ≠ (.slice Ao40 t221.length co40 : Value).ownBlock ∧ (some k_ ≠ (.slice Ao46 t245.length co46 : Value).ownBlock ∧ some k_ ≠ (.slice Ao57 t234.length co57 : Value).ownBlock)))) (n := t257.length) (c := co144) ?_).2.2; exact (by exact (Kd.R_mono (Kd.R_far (p := ⟨gb261, 0, none⟩) (Kd.R_types HO259.out BK261.out (by decide)) (fun _ hk => hk.2) (.slice Ao144 t257.length co144)) (fun _ h_ => h_.1)))); (case side2 => exact (Kd.R_reads' HO259.out).2.1); (case side3 => refine (Kd.R_reads' (e := 67) (base := w.heap.size) (ok := fun k_ => (some k_ ≠ (v251 : Value).ownBlock ∧ (some k_ ≠ (.slice Ao144 t257.length co144 : Value).ownBlock ∧ (some k_ ≠ (.slice Ao46 t245.length co46 : Value).ownBlock ∧ some k_ ≠ (.slice Ao57 t234.length co57 : Value).ownBlock)))) (n := t221.length) (c := co40) ?_).2.2; exact (by exact (Kd.R_mono (Kd.R_far (p := ⟨gb261, 0, none⟩) (Kd.R_types HO_226000.out BK261.out (by decide)) (fun _ hk => hk.2) (.slice Ao144 t257.length co144)) (fun _ h_ => h_.1)))); (case side4 => exact (Kd.R_reads' HO_226000.out).2.1); rintro e w171 ⟨rfl, hb⟩; refine ⟨_, rfl, ?_⟩; have n0_ := AM (Kd.R_below (by exact (Kd.R_mono (Kd.R_far (p := ⟨gb261, 0, none⟩) (Kd.R_types HO_226000.out BK261.out (by decide)) (fun _ hk => hk.2) (.slice Ao144 t257.length co144)) (fun _ h_ => h_.1))) hb); have n1_ := AM (Kd.R_below (by exact (Kd.R_mono (Kd.R_far (p := ⟨gb261, 0, none⟩) (Kd.R_types HO_230000.out BK261.out (by decide)) (fun _ hk => hk.2) (.slice Ao144 t257.length co144)) (fun _ h_ => h_.1))) hb); have n2_ := AM (Kd.R_below (by exact (Kd.R_mono (Kd.R_far (p := ⟨gb261, 0, none⟩) (Kd.R_types HO_239000.out BK261.out (by decide)) (fun _ hk => hk.2) (.slice Ao144 t257.length co144)) (fun _ h_ => h_.1))) hb); have n3_ := AM (Kd.R_below (by exact (Kd.R_mono (Kd.R_far (p := ⟨gb261, 0, none⟩) (Kd.R_types HO252.out BK261.out (by decide)) (fun _ hk => hk.2) (.slice Ao144 t257.length co144)) (fun _ h_ => h_.1))) hb); have n4_ := AM (Kd.R_below (by exact (Kd.R_mono (Kd.R_far (p := ⟨gb261, 0, none⟩) (Kd.R_types HO259.out BK261.out (by decide)) (fun _ hk => hk.2) (.slice Ao144 t257.length co144)) (fun _ h_ => h_.1))) hb); have n5_ := AM (blk_below (g := gb210) (o := .cells #[.slice A0_0 l0_0.length c0_0] 24 (0, 0)) (by (with_reducible repeat (first | refine blk_drewN ?_ _ | refine blk_drew ?_ | refine blk_alloc ?_ _)); refine blk_far ?_ NB210_261.out _; (with_reducible repeat (first | refine blk_drewN ?_ _ | refine blk_drew ?_ | refine blk_alloc ?_ _)); exact BK210.out) hb); have n6_ := AM (blk_below (g := gb211) (o := .cells #[.int .i64 a1_0, .string a1_1, .string a1_2, .string a1_3] 37 (0, 0)) (by (with_reducible repeat (first | refine blk_drewN ?_ _ | refine blk_drew ?_ | refine blk_alloc ?_ _)); refine blk_far ?_ NB211_261.out _; (with_reducible repeat (first | refine blk_drewN ?_ _ | refine blk_drew ?_ | refine blk_alloc ?_ _)); exact BK211.out) hb); have n7_ := AM (blk_below (g := gb225) (o := .cells #[.slice Ao40 t221.length co40] 30 (0, 0)) (by (with_reducible repeat (first | refine blk_drewN ?_ _ | refine blk_drew ?_ | refine blk_alloc ?_ _)); refine blk_far ?_ NB225_261.out _; (with_reducible repeat (first | refine blk_drewN ?_ _ | refine blk_drew ?_ | refine blk_alloc ?_ _)); exact BK225.out) hb); have n8_ := AM (blk_below (g := gb229) (o := .cells #[.slice Ao46 t245.length co46] 30 (0, 0)) (by (with_reducible repeat (first | refine blk_drewN ?_ _ | refine blk_drew ?_ | refine blk_alloc ?_ _)); refine blk_far ?_ NB229_261.out _; (with_reducible repeat (first | refine blk_drewN ?_ _ | refine blk_drew ?_ | refine blk_alloc ?_ _)); exact BK229.out) hb); have n9_ := AM (blk_below (g := gb238) (o := .cells #[.slice Ao57 t234.length co57] 30 (0, 0)) (by (with_reducible repeat (first | refine blk_drewN ?_ _ | refine blk_drew ?_ | refine blk_alloc ?_ _)); refine blk_far ?_ NB238_261.out _; (with_reducible repeat (first | refine blk_drewN ?_ _ | refine blk_drew ?_ | refine blk_alloc ?_ _)); exact BK238.out) hb); have n10_ := AM (blk_below (g := gb261) (o := .cells #[.slice Ao144 t257.length co144] 30 (0, 0)) (by (with_reducible repeat (first | refine blk_drewN ?_ _ | refine blk_drew ?_ | refine blk_alloc ?_ _)); refine blk_put (cs := #[.slice none 0 0]) ?_ 0 _ rfl; (with_reducible repeat (first | refine blk_drewN ?_ _ | refine blk_drew ?_ | refine blk_alloc ?_ _)); exact BK261.out) hb); have n11_ := AM (below_step (hS) hb); clear HO_226000; clear HO_230000; clear HO_239000; clear HO252; clear HO259; clear BK210; clear BK211; clear BK225; clear BK229; clear BK238; clear BK261; clear HB; have HO_226000 := n0_; have HO_230000 := n1_; have HO_239000 := n2_; have HO252 := n3_; have HO259 := n4_; have BK210 := n5_; have BK211 := n6_; have BK225 := n7_; have BK229 := n8_; have BK238 := n9_; have BK261 := n10_; have HB := n11_; clear n0_ n1_ n2_ n3_ n4_ n5_ n6_ n7_ n8_ n9_ n10_ n11_; (try clear hb); (try clear hk)))
        go_meet
        case rel => exact ⟨_, (true), (by first | rfl | (simp; done) | (simp [*]; done)), H', ⟨by have := HJ24.out; have := HJ85.out; first | omega | exact Nat.le_refl _⟩, ⟨by (try simp only [hl230000_85]); exact Kd.R_mono HO_226000.out (fun _ hk => ⟨hk.2.2.1, ⟨hk.2.2.2, hk.2.1⟩⟩)⟩, ⟨by (try simp only [hl230000_85]); exact Kd.R_mono HO_230000.out (fun _ hk => ⟨hk.2.2.1, ⟨hk.2.2.2, hk.2.1⟩⟩)⟩, ⟨by (try simp only [hl230000_85]); exact Kd.R_mono HO_239000.out (fun _ hk => ⟨hk.2.2.1, ⟨hk.2.2.2, hk.2.1⟩⟩)⟩, ⟨by (try simp only [hl230000_85]); exact Kd.R_mono HO259.out (fun _ hk => ⟨hk.2.1, ⟨hk.2.2.1, hk.2.2.2⟩⟩)⟩, ⟨by (try simp only [hl230000_85]); (with_reducible repeat (first | refine blk_drewN ?_ _ | refine blk_drew ?_ | refine blk_alloc ?_ _)); exact BK210.out⟩, ⟨by (try simp only [hl230000_85]); (with_reducible repeat (first | refine blk_drewN ?_ _ | refine blk_drew ?_ | refine blk_alloc ?_ _)); exact BK211.out⟩, ⟨by (try simp only [hl230000_85]); (with_reducible repeat (first | refine blk_drewN ?_ _ | refine blk_drew ?_ | refine blk_alloc ?_ _)); exact BK225.out⟩, ⟨by (try simp only [hl230000_85]); (with_reducible repeat (first | refine blk_drewN ?_ _ | refine blk_drew ?_ | refine blk_alloc ?_ _)); exact BK229.out⟩, ⟨by (try simp only [hl230000_85]); (with_reducible repeat (first | refine blk_drewN ?_ _ | refine blk_drew ?_ | refine blk_alloc ?_ _)); exact BK238.out⟩, ⟨by (try simp only [hl230000_85]); (with_reducible repeat (first | refine blk_drewN ?_ _ | refine blk_drew ?_ | refine blk_alloc ?_ _)); exact BK261.out⟩, ⟨hS⟩⟩
       case rest =>
        clear HC128
        obtain ⟨kq, x100_127, rfl, HA, HJ127, HO_226000, HO_230000, HO_239000, HO_262000, BK210, BK211, BK225, BK229, BK238, BK261, HB⟩ := hcut
        have hl239000_127 := (Kd.R_reads' HO_239000.out).1
        rw [hl239000_127] at HO_239000
        (try simp only [hl239000_127])
        (try simp only [hl239000_127] at BK210)
        (try simp only [hl239000_127] at BK211)
        (try simp only [hl239000_127] at BK225)
        (try simp only [hl239000_127] at BK229)
        (try simp only [hl239000_127] at BK238)
        (try simp only [hl239000_127] at BK261)
        (try simp only [hl239000_127] at HO_226000)
        (try simp only [hl239000_127] at HO_230000)
        (try simp only [hl239000_127] at HO_262000)
        cases kq with
        | zero => exact absurd HA.out (by simp [laws_FnExactDoAct.j2])
        | succ kj127 =>
         have H := HA.out
         clear HA
         simp only [laws_FnExactDoAct.j2] at H
         by_cases c172 : x100_127 = true
         ·subst c172
          have H1 : (some false) = some r := by rw [if_pos rfl] at H; exact H
          clear H
          have H := H1
          clear H1
          exact absurd ((Option.some.inj H).trans hT.out) (by decide)
         replace c172 := Bool.eq_false_iff.mpr c172
         subst c172
         have H1 : ((laws_heldDisk.f kj127 t248 1).bind fun t263 => (if t263 < 0 then (some false) else (if t263 = t247 then (some true) else (some false)))) = some r := by rw [if_neg (show ¬ (false = true) by decide)] at H; exact H
         clear H
         have H := H1
         clear H1
         replace H := bm H
         obtain ⟨t263, A1730, H⟩ := H
         replace H : (if t263 < 0 then (some false) else (if t263 = t247 then (some true) else (some false))) = some r := H
         have A173 := AM A1730
         clear A1730
         by_cases c174 : t263 < 0
         ·rw [if_pos c174] at H
          have c174b0 : decide (t263 < 0) = true := decide_eq_true c174
          clear c174
          exact absurd ((Option.some.inj H).trans hT.out) (by decide)
         rw [if_neg c174] at H
         have c174b0 : decide (t263 < 0) = false := decide_eq_false c174
         clear c174
         by_cases c175 : t263 = t247
         ·rw [if_pos c175] at H
          have c175b0 : (t263 == t247) = true := beq_iff_eq.mpr c175
          have c175b1 : (t263 != t247) = false := bne_eq_false_iff_eq.mpr c175
          clear c175
          obtain rfl := Option.some.inj H
          have hnb176 := NB238_210.out
          have hnc176 := NB210_238.out
          have hnb177 := NB238_211.out
          have hnc177 := NB211_238.out
          have hnb178 := NB238_225.out
          have hnc178 := NB225_238.out
          have hnb179 := NB238_229.out
          have hnc179 := NB229_238.out
          have hnb180 := NB238_261.out
          have hnc180 := NB261_238.out
          have hcz181_0 : wc.cell? ⟨gb238, 0, none⟩ = some (.slice Ao57 t248.length co57) := (blk_cell BK238.out 0).trans rfl
          have hfz181_0 := blk_frozen BK238.out 0
          go_wp2_with (first | ((with_reducible refine gate_callee (f := 21) rfl ?_); refine goesL_ (some 103) rfl rfl Try.func21 (by kernel_rfl) rfl #[.agg #[.slice Ao57 t248.length co57], .int .i64 1] rfl (by (try simp only [List.map_toArray, List.map_cons, List.map_nil]); first | done | rfl) ?_; (with_reducible refine (laws_heldDisk.calls kj127 _ _ t248 1 t263 _ ?side1 ?side2 A173.out).mono ?_); (case side1 => repeat (first | exact (Kd.R_reads' HO_239000.out).2.2 | (with_reducible refine Kd.C_alloc ?_ _) | (with_reducible refine Kd.C_drewN ?_ _) | (with_reducible refine Kd.C_drew ?_))); (case side2 => exact (Kd.R_reads' HO_239000.out).2.1); rintro e w182 ⟨rfl, hb⟩; refine ⟨_, rfl, ?_⟩; have n0_ := AM (Kd.R_below (by exact HO_226000.out) hb); have n1_ := AM (Kd.R_below (by exact HO_230000.out) hb); have n2_ := AM (Kd.R_below (by exact HO_239000.out) hb); have n3_ := AM (Kd.R_below (by exact HO_262000.out) hb); have n4_ := AM (blk_below (g := gb210) (o := .cells #[.slice A0_0 l0_0.length c0_0] 24 (0, 0)) (bk BK210) hb); have n5_ := AM (blk_below (g := gb211) (o := .cells #[.int .i64 a1_0, .string a1_1, .string a1_2, .string a1_3] 37 (0, 0)) (bk BK211) hb); have n6_ := AM (blk_below (g := gb225) (o := .cells #[.slice Ao40 t221.length co40] 30 (0, 0)) (bk BK225) hb); have n7_ := AM (blk_below (g := gb229) (o := .cells #[.slice Ao46 t245.length co46] 30 (0, 0)) (bk BK229) hb); have n8_ := AM (blk_below (g := gb238) (o := .cells #[.slice Ao57 t248.length co57] 30 (0, 0)) (bk BK238) hb); have n9_ := AM (blk_below (g := gb261) (o := .cells #[.slice Ao144 t257.length co144] 30 (0, 0)) (bk BK261) hb); have n10_ := AM (below_step (hS) hb); clear HO_226000; clear HO_230000; clear HO_239000; clear HO_262000; clear BK210; clear BK211; clear BK225; clear BK229; clear BK238; clear BK261; clear HB; have HO_226000 := n0_; have HO_230000 := n1_; have HO_239000 := n2_; have HO_262000 := n3_; have BK210 := n4_; have BK211 := n5_; have BK225 := n6_; have BK229 := n7_; have BK238 := n8_; have BK261 := n9_; have HB := n10_; clear n0_ n1_ n2_ n3_ n4_ n5_ n6_ n7_ n8_ n9_ n10_; (try clear hb)))
          go_ret
          exact ⟨by first | rfl | (simp [errW_none, errW_some] <;> rfl) | (simp [*, errW_none, errW_some] <;> rfl), hS⟩
         rw [if_neg c175] at H
         have c175b0 : (t263 == t247) = false := beq_eq_false_iff_ne.mpr c175
         have c175b1 : (t263 != t247) = true := bne_iff_ne.mpr c175
         exact absurd ((Option.some.inj H).trans hT.out) (by decide)
      rw [if_neg c124] at H
      have c124b0 : (t249 == t247) = false := beq_eq_false_iff_ne.mpr c124
      have c124b1 : (t249 != t247) = true := bne_iff_ne.mpr c124
      exact absurd ((Option.some.inj H).trans hT.out) (by decide)
   replace c84 := Bool.eq_false_iff.mpr c84
   subst c84
   have H1 : (some false) = some r := by rw [if_neg (show ¬ (false = true) by decide)] at H; exact H
   clear H
   have H := H1
   clear H1
   exact absurd ((Option.some.inj H).trans hT.out) (by decide)

/-- THE ONE PURE STATEMENT of laws_FnExactDoAct. -/
def laws_FnExactDoAct.Pure : Prop := ∀ (l0_0 : List (S91)) (a1_0 : Int) (a1_1 : ByteArray) (a1_2 : ByteArray) (a1_3 : ByteArray), (Wide.WfList (fun y : S91 => Wide.WfStr y.f0 ∧ Wide.WfStr y.f1 ∧ (Wide.WfInt .i64) y.f2)) l0_0 → (Lit.int .i64 a1_0).wf = true → Wide.WfStr a1_1 → Wide.WfStr a1_2 → Wide.WfStr a1_3 → ∃ k, laws_FnExactDoAct.f k l0_0 a1_0 a1_1 a1_2 a1_3 = some true

end Go.Proofs.Ytnkldnkolcighaa.XFnExactDoAct
