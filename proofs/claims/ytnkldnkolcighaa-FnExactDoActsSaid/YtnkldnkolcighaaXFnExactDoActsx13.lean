/- What the functions of a law compute, and that their calls compute it: written by a program of this session (xprint.py), which turns the kit print at a few places. -/
import Derived.Test.YtnkldnkolcighaaXFnExactDoActsx0
import Derived.Test.YtnkldnkolcighaaXFnExactDoActsx1
import Derived.Test.YtnkldnkolcighaaXFnExactDoActsx2
import Derived.Test.YtnkldnkolcighaaXFnExactDoActsx3
import Derived.Test.YtnkldnkolcighaaXFnExactDoActsx4
import Derived.Test.YtnkldnkolcighaaXFnExactDoActsx8
import Derived.Test.YtnkldnkolcighaaXFnExactDoActsx9
import Derived.Test.YtnkldnkolcighaaXFnExactDoActsx12
namespace Go.Proofs.Ytnkldnkolcighaa.XFnExactDoActs
open Go.RowKit Go.Proofs.YtnkldnkolcighaaU.PrintWords Go.Proofs.YtnkldnkolcighaaU.PrintLast Go.Proofs.YtnkldnkolcighaaU.PrintMore
attribute [local go_sem] max2_int min2_int max_two min_two max_three min_three max_four min_four str_geq str_gtr   -- for this text's walks alone
set_option linter.unusedVariables false
set_option linter.unusedSimpArgs false

/-! ### laws_FnExactDoActs: function 6 -/
mutual
def laws_FnExactDoActs.j0 : Nat → List (S37) → Int → List (S41) → Int → Bool → List (S91) → List (S67) → List (S67) → List (S67) → Option (Bool)
 | 0, _, _, _, _, _, _, _, _, _ => none
 | k + 1, x1, x7, x9, x11, x53, x262000, x275000, x279000, x287000 => if x53 = true then (some false) else ((laws_toDisk.f k x262000).bind fun t288 => ((laws_eqDisk.f k x279000 t288).bind fun t291 => (if t291 = true then ((laws_toActS.f k x1).bind fun t292 => ((laws_eqActS.f k x9 t292).bind fun t295 => (if t295 = true then ((laws_markDisk.f k x279000 1).bind fun bt296 => ((laws_markActS.f k x9 bt296.1).bind fun bt298 => (if bt298.1 < 0 then (laws_FnExactDoActs.j1 k x1 x7 true x262000 x275000 x287000) else ((laws_eqDisk.f k x287000 x275000).bind fun t300 => (if t300 = true then (laws_FnExactDoActs.j1 k x1 x7 (x11 != x7) x262000 x275000 x287000) else (laws_FnExactDoActs.j1 k x1 x7 true x262000 x275000 x287000)))))) else (some false)))) else (some false))))
def laws_FnExactDoActs.j1 : Nat → List (S37) → Int → Bool → List (S91) → List (S67) → List (S67) → Option (Bool)
 | 0, _, _, _, _, _, _ => none
 | k + 1, x1, x7, x82, x262000, x275000, x287000 => if x82 = true then (some false) else ((laws_markDisk.f k x287000 1).bind fun bt301 => ((laws_heldDisk.f k bt301.2 1).bind fun t303 => (if t303 < 0 then (some false) else (if t303 = bt301.1 then ((laws_toDisk.f k x262000).bind fun t304 => ((laws_toActS.f k x1).bind fun t307 => ((impl_DoActs.f k t304 t307).bind fun bt310 => ((laws_eqDisk.f k bt310.1 x275000).bind fun t315 => (if t315 = true then (laws_FnExactDoActs.j2 k bt301.1 (bt310.2 != x7) bt301.2) else (laws_FnExactDoActs.j2 k bt301.1 true bt301.2)))))) else (some false)))))
def laws_FnExactDoActs.j2 : Nat → Int → Bool → List (S67) → Option (Bool)
 | 0, _, _, _ => none
 | k + 1, x13, x110, x287000 => if x110 = true then (some false) else ((laws_heldDisk.f k x287000 1).bind fun t316 => (if t316 < 0 then (some false) else (if t316 = x13 then (some true) else (some false))))
end
def laws_FnExactDoActs.f (k : Nat) (l0_0 : List (S91)) (l1 : List (S37)) : Option (Bool) := (laws_szDisk.f k l0_0 1048576).bind fun t262 => (if t262 < 0 then (some true) else ((laws_szActS.f k l1 t262).bind fun t263 => (if t263 < 0 then (some true) else ((laws_toDisk.f k l0_0).bind fun t264 => ((laws_toActS.f k l1).bind fun t267 => ((spec_DoActs.f k t264 t267).bind fun bt270 => ((laws_toDisk.f k l0_0).bind fun t275 => ((laws_toActS.f k l1).bind fun t279 => ((impl_DoActs.f k t275 t279).bind fun bt282 => ((laws_eqDisk.f k bt282.1 bt270.1).bind fun t287 => (if t287 = true then (laws_FnExactDoActs.j0 k l1 bt270.2 t279 bt282.2 (bt282.2 != bt270.2) l0_0 bt270.1 t275 bt282.1) else (laws_FnExactDoActs.j0 k l1 bt270.2 t279 bt282.2 true l0_0 bt270.1 t275 bt282.1))))))))))))
theorem laws_FnExactDoActs.mono_l : ∀ k, (∀ y0 y1 y2 y3 y4 y5 y6 y7 y8, LeO (laws_FnExactDoActs.j0 k y0 y1 y2 y3 y4 y5 y6 y7 y8) (laws_FnExactDoActs.j0 (k + 1) y0 y1 y2 y3 y4 y5 y6 y7 y8)) ∧ (∀ y0 y1 y2 y3 y4 y5, LeO (laws_FnExactDoActs.j1 k y0 y1 y2 y3 y4 y5) (laws_FnExactDoActs.j1 (k + 1) y0 y1 y2 y3 y4 y5)) ∧ (∀ y0 y1 y2, LeO (laws_FnExactDoActs.j2 k y0 y1 y2) (laws_FnExactDoActs.j2 (k + 1) y0 y1 y2))
 | 0 => ⟨fun _ _ _ _ _ _ _ _ _ r h => by simp [laws_FnExactDoActs.j0] at h, fun _ _ _ _ _ _ r h => by simp [laws_FnExactDoActs.j1] at h, fun _ _ _ r h => by simp [laws_FnExactDoActs.j2] at h⟩
 | k + 1 => by
  obtain ⟨ih0, ih1, ih2⟩ := laws_FnExactDoActs.mono_l k
  refine ⟨?_, ?_, ?_⟩
  ·intro y0 y1 y2 y3 y4 y5 y6 y7 y8
   unfold laws_FnExactDoActs.j0
   repeat' first
   | (with_reducible exact ih0 _ _ _ _ _ _ _ _ _)
   | (with_reducible exact ih1 _ _ _ _ _ _)
   | (with_reducible exact ih2 _ _ _)
   | (with_reducible exact impl_DoActs.mono _ _ _)
   | (with_reducible exact laws_eqActS.mono _ _ _)
   | (with_reducible exact laws_eqDisk.mono _ _ _)
   | (with_reducible exact laws_heldDisk.mono _ _ _)
   | (with_reducible exact laws_markActS.mono _ _ _)
   | (with_reducible exact laws_markDisk.mono _ _ _)
   | (with_reducible exact laws_szActS.mono _ _ _)
   | (with_reducible exact laws_szDisk.mono _ _ _)
   | (with_reducible exact laws_toActS.mono _ _)
   | (with_reducible exact laws_toDisk.mono _ _)
   | (with_reducible exact spec_DoActs.mono _ _ _)
   | (with_reducible exact LeO.refl _)
   | (with_reducible exact LeO.none _)
   | (with_reducible refine LeO.ite ?_ ?_)
   | (with_reducible refine LeO.bind ?_ (fun _ => ?_))
   | exact ih0 _ _ _ _ _ _ _ _ _
   | exact ih1 _ _ _ _ _ _
   | exact ih2 _ _ _
   | exact impl_DoActs.mono _ _ _
   | exact laws_eqActS.mono _ _ _
   | exact laws_eqDisk.mono _ _ _
   | exact laws_heldDisk.mono _ _ _
   | exact laws_markActS.mono _ _ _
   | exact laws_markDisk.mono _ _ _
   | exact laws_szActS.mono _ _ _
   | exact laws_szDisk.mono _ _ _
   | exact laws_toActS.mono _ _
   | exact laws_toDisk.mono _ _
   | exact spec_DoActs.mono _ _ _
   | exact LeO.none _
   | refine LeO.ite ?_ ?_
   | refine LeO.bind ?_ (fun _ => ?_)
  ·intro y0 y1 y2 y3 y4 y5
   unfold laws_FnExactDoActs.j1
   repeat' first
   | (with_reducible exact ih0 _ _ _ _ _ _ _ _ _)
   | (with_reducible exact ih1 _ _ _ _ _ _)
   | (with_reducible exact ih2 _ _ _)
   | (with_reducible exact impl_DoActs.mono _ _ _)
   | (with_reducible exact laws_eqActS.mono _ _ _)
   | (with_reducible exact laws_eqDisk.mono _ _ _)
   | (with_reducible exact laws_heldDisk.mono _ _ _)
   | (with_reducible exact laws_markActS.mono _ _ _)
   | (with_reducible exact laws_markDisk.mono _ _ _)
   | (with_reducible exact laws_szActS.mono _ _ _)
   | (with_reducible exact laws_szDisk.mono _ _ _)
   | (with_reducible exact laws_toActS.mono _ _)
   | (with_reducible exact laws_toDisk.mono _ _)
   | (with_reducible exact spec_DoActs.mono _ _ _)
   | (with_reducible exact LeO.refl _)
   | (with_reducible exact LeO.none _)
   | (with_reducible refine LeO.ite ?_ ?_)
   | (with_reducible refine LeO.bind ?_ (fun _ => ?_))
   | exact ih0 _ _ _ _ _ _ _ _ _
   | exact ih1 _ _ _ _ _ _
   | exact ih2 _ _ _
   | exact impl_DoActs.mono _ _ _
   | exact laws_eqActS.mono _ _ _
   | exact laws_eqDisk.mono _ _ _
   | exact laws_heldDisk.mono _ _ _
   | exact laws_markActS.mono _ _ _
   | exact laws_markDisk.mono _ _ _
   | exact laws_szActS.mono _ _ _
   | exact laws_szDisk.mono _ _ _
   | exact laws_toActS.mono _ _
   | exact laws_toDisk.mono _ _
   | exact spec_DoActs.mono _ _ _
   | exact LeO.none _
   | refine LeO.ite ?_ ?_
   | refine LeO.bind ?_ (fun _ => ?_)
  intro y0 y1 y2
  unfold laws_FnExactDoActs.j2
  repeat' first
  | (with_reducible exact ih0 _ _ _ _ _ _ _ _ _)
  | (with_reducible exact ih1 _ _ _ _ _ _)
  | (with_reducible exact ih2 _ _ _)
  | (with_reducible exact impl_DoActs.mono _ _ _)
  | (with_reducible exact laws_eqActS.mono _ _ _)
  | (with_reducible exact laws_eqDisk.mono _ _ _)
  | (with_reducible exact laws_heldDisk.mono _ _ _)
  | (with_reducible exact laws_markActS.mono _ _ _)
  | (with_reducible exact laws_markDisk.mono _ _ _)
  | (with_reducible exact laws_szActS.mono _ _ _)
  | (with_reducible exact laws_szDisk.mono _ _ _)
  | (with_reducible exact laws_toActS.mono _ _)
  | (with_reducible exact laws_toDisk.mono _ _)
  | (with_reducible exact spec_DoActs.mono _ _ _)
  | (with_reducible exact LeO.refl _)
  | (with_reducible exact LeO.none _)
  | (with_reducible refine LeO.ite ?_ ?_)
  | (with_reducible refine LeO.bind ?_ (fun _ => ?_))
  | exact ih0 _ _ _ _ _ _ _ _ _
  | exact ih1 _ _ _ _ _ _
  | exact ih2 _ _ _
  | exact impl_DoActs.mono _ _ _
  | exact laws_eqActS.mono _ _ _
  | exact laws_eqDisk.mono _ _ _
  | exact laws_heldDisk.mono _ _ _
  | exact laws_markActS.mono _ _ _
  | exact laws_markDisk.mono _ _ _
  | exact laws_szActS.mono _ _ _
  | exact laws_szDisk.mono _ _ _
  | exact laws_toActS.mono _ _
  | exact laws_toDisk.mono _ _
  | exact spec_DoActs.mono _ _ _
  | exact LeO.none _
  | refine LeO.ite ?_ ?_
  | refine LeO.bind ?_ (fun _ => ?_)
theorem laws_FnExactDoActs.mono : ∀ a0 a1 k, LeO (laws_FnExactDoActs.f k a0 a1) (laws_FnExactDoActs.f (k + 1) a0 a1) := by
 intro a0 a1 k
 obtain ⟨ih0, ih1, ih2⟩ := laws_FnExactDoActs.mono_l k
 unfold laws_FnExactDoActs.f
 repeat' first
   | (with_reducible exact ih0 _ _ _ _ _ _ _ _ _)
   | (with_reducible exact ih1 _ _ _ _ _ _)
   | (with_reducible exact ih2 _ _ _)
   | (with_reducible exact impl_DoActs.mono _ _ _)
   | (with_reducible exact laws_eqActS.mono _ _ _)
   | (with_reducible exact laws_eqDisk.mono _ _ _)
   | (with_reducible exact laws_heldDisk.mono _ _ _)
   | (with_reducible exact laws_markActS.mono _ _ _)
   | (with_reducible exact laws_markDisk.mono _ _ _)
   | (with_reducible exact laws_szActS.mono _ _ _)
   | (with_reducible exact laws_szDisk.mono _ _ _)
   | (with_reducible exact laws_toActS.mono _ _)
   | (with_reducible exact laws_toDisk.mono _ _)
   | (with_reducible exact spec_DoActs.mono _ _ _)
   | (with_reducible exact LeO.refl _)
   | (with_reducible exact LeO.none _)
   | (with_reducible refine LeO.ite ?_ ?_)
   | (with_reducible refine LeO.bind ?_ (fun _ => ?_))
   | exact ih0 _ _ _ _ _ _ _ _ _
   | exact ih1 _ _ _ _ _ _
   | exact ih2 _ _ _
   | exact impl_DoActs.mono _ _ _
   | exact laws_eqActS.mono _ _ _
   | exact laws_eqDisk.mono _ _ _
   | exact laws_heldDisk.mono _ _ _
   | exact laws_markActS.mono _ _ _
   | exact laws_markDisk.mono _ _ _
   | exact laws_szActS.mono _ _ _
   | exact laws_szDisk.mono _ _ _
   | exact laws_toActS.mono _ _
   | exact laws_toDisk.mono _ _
   | exact spec_DoActs.mono _ _ _
   | exact LeO.none _
   | refine LeO.ite ?_ ?_
   | refine LeO.bind ?_ (fun _ => ?_)
set_option maxHeartbeats 8000000 in
set_option maxRecDepth 100000 in
theorem laws_FnExactDoActs.calls (k : Nat) (A0_0 : Option Addr) (c0_0 : Nat) (l0_0 : List (S91)) (A1 : Option Addr) (c1 : Nat) (l1 : List (S37)) (r : Bool) (w : World) (hr0_0 : Kd.C k91 w A0_0 l0_0.length l0_0) (hc0_0 : l0_0.length ≤ c0_0) (hr1 : Kd.C k37 w A1 l1.length l1) (hc1 : l1.length ≤ c1) (h : laws_FnExactDoActs.f k l0_0 l1 = some r) (hT : Aside0 (r = true) := by exact ⟨rfl⟩) :
  Calls Try.prog 6 #[.agg #[.slice A0_0 l0_0.length c0_0], .slice A1 l1.length c1] w fun e w' => e = .returned (.bool r) ∧ Below w.heap.size w w' := by
 have hu24 := Try.underlying24
 have hu30 := Try.underlying30
 have HR0_0 := AM hr0_0
 have HC0_0 := AM hc0_0
 clear hr0_0 hc0_0
 have HR1 := AM hr1
 have HC1 := AM hc1
 clear hr1 hc1
 have HB := AM (Below.refl w.heap.size w)
 have H : ((laws_szDisk.f k l0_0 1048576).bind fun t262 => (if t262 < 0 then (some true) else ((laws_szActS.f k l1 t262).bind fun t263 => (if t263 < 0 then (some true) else ((laws_toDisk.f k l0_0).bind fun t264 => ((laws_toActS.f k l1).bind fun t267 => ((spec_DoActs.f k t264 t267).bind fun bt270 => ((laws_toDisk.f k l0_0).bind fun t275 => ((laws_toActS.f k l1).bind fun t279 => ((impl_DoActs.f k t275 t279).bind fun bt282 => ((laws_eqDisk.f k bt282.1 bt270.1).bind fun t287 => (if t287 = true then (laws_FnExactDoActs.j0 k l1 bt270.2 t279 bt282.2 (bt282.2 != bt270.2) l0_0 bt270.1 t275 bt282.1) else (laws_FnExactDoActs.j0 k l1 bt270.2 t279 bt282.2 true l0_0 bt270.1 t275 bt282.1))))))))))))) = some r := h
 clear h
 replace H := bm H
 obtain ⟨t262, A30, H⟩ := H
 replace H : (if t262 < 0 then (some true) else ((laws_szActS.f k l1 t262).bind fun t263 => (if t263 < 0 then (some true) else ((laws_toDisk.f k l0_0).bind fun t264 => ((laws_toActS.f k l1).bind fun t267 => ((spec_DoActs.f k t264 t267).bind fun bt270 => ((laws_toDisk.f k l0_0).bind fun t275 => ((laws_toActS.f k l1).bind fun t279 => ((impl_DoActs.f k t275 t279).bind fun bt282 => ((laws_eqDisk.f k bt282.1 bt270.1).bind fun t287 => (if t287 = true then (laws_FnExactDoActs.j0 k l1 bt270.2 t279 bt282.2 (bt282.2 != bt270.2) l0_0 bt270.1 t275 bt282.1) else (laws_FnExactDoActs.j0 k l1 bt270.2 t279 bt282.2 true l0_0 bt270.1 t275 bt282.1)))))))))))) = some r := H
 have A3 := AM A30
 clear A30
 by_cases c4 : t262 < 0
 ·rw [if_pos c4] at H
  have c4b0 : decide (t262 < 0) = true := decide_eq_true c4
  clear c4
  obtain rfl := Option.some.inj H
  go_enter Try.func6, Try.ntmps6
  go_wp2_with (first | ((with_reducible refine gate_dst (N := 2) rfl ?_); refine bx (N := 2) (cs := #[.slice A0_0 l0_0.length c0_0]) (t := 24) ?_; intro gb261 hg w5 hbox hb; have n0_ := AM (below_step (hB HB) hb); have n1_ := AM (hbox); have n2_ := AM (bs hg HB); have n3_ := AM (bs hg HB); clear HB; have HB := n0_; have BK261 := n1_; have GW261 := n2_; have GE261 := n3_; clear n0_ n1_ n2_ n3_; clear hb hbox hg; have hcz6_0 : w5.cell? ⟨gb261, 0, none⟩ = some (.slice A0_0 l0_0.length c0_0) := bc BK261 0; have hfz6_0 := blk_frozen BK261.out 0) | ((with_reducible refine gate_callee (f := 9) rfl ?_); refine goesL_ (some 19) rfl rfl Try.func9 (by kernel_rfl) rfl #[.agg #[.slice A0_0 l0_0.length c0_0], .int .i64 1048576] rfl am ?_; (with_reducible refine (laws_szDisk.calls k _ _ l0_0 1048576 t262 _ ?side1 ?side2 A3.out).mono ?_); (case side1 => repeat (first | exact (Kd.C_below HR0_0.out HB.out) | (with_reducible refine Kd.C_alloc ?_ _) | (with_reducible refine Kd.C_drewN ?_ _) | (with_reducible refine Kd.C_drew ?_))); (case side2 => exact HC0_0.out); rintro e w7 ⟨rfl, hb⟩; refine ⟨_, rfl, ?_⟩; have n0_ := AM (blk_below (bk BK261) hb); have n1_ := AM (below_step (hS) hb); clear BK261; clear HB; have BK261 := n0_; have HB := n1_; clear n0_ n1_; (try clear hb)))
  go_ret
  exact ⟨by first | rfl | (simp [errW_none, errW_some] <;> rfl) | (simp [*, errW_none, errW_some] <;> rfl), hS⟩
 rw [if_neg c4] at H
 have c4b0 : decide (t262 < 0) = false := decide_eq_false c4
 clear c4
 replace H := bm H
 obtain ⟨t263, A80, H⟩ := H
 replace H : (if t263 < 0 then (some true) else ((laws_toDisk.f k l0_0).bind fun t264 => ((laws_toActS.f k l1).bind fun t267 => ((spec_DoActs.f k t264 t267).bind fun bt270 => ((laws_toDisk.f k l0_0).bind fun t275 => ((laws_toActS.f k l1).bind fun t279 => ((impl_DoActs.f k t275 t279).bind fun bt282 => ((laws_eqDisk.f k bt282.1 bt270.1).bind fun t287 => (if t287 = true then (laws_FnExactDoActs.j0 k l1 bt270.2 t279 bt282.2 (bt282.2 != bt270.2) l0_0 bt270.1 t275 bt282.1) else (laws_FnExactDoActs.j0 k l1 bt270.2 t279 bt282.2 true l0_0 bt270.1 t275 bt282.1)))))))))) = some r := H
 have A8 := AM A80
 clear A80
 by_cases c9 : t263 < 0
 ·rw [if_pos c9] at H
  have c9b0 : decide (t263 < 0) = true := decide_eq_true c9
  clear c9
  obtain rfl := Option.some.inj H
  go_enter Try.func6, Try.ntmps6
  go_wp2_with (first | ((with_reducible refine gate_dst (N := 2) rfl ?_); refine bx (N := 2) (cs := #[.slice A0_0 l0_0.length c0_0]) (t := 24) ?_; intro gb261 hg w10 hbox hb; have n0_ := AM (below_step (hB HB) hb); have n1_ := AM (hbox); have n2_ := AM (bs hg HB); have n3_ := AM (bs hg HB); clear HB; have HB := n0_; have BK261 := n1_; have GW261 := n2_; have GE261 := n3_; clear n0_ n1_ n2_ n3_; clear hb hbox hg; have hcz11_0 : w10.cell? ⟨gb261, 0, none⟩ = some (.slice A0_0 l0_0.length c0_0) := bc BK261 0; have hfz11_0 := blk_frozen BK261.out 0) | ((with_reducible refine gate_callee (f := 9) rfl ?_); refine goesL_ (some 19) rfl rfl Try.func9 (by kernel_rfl) rfl #[.agg #[.slice A0_0 l0_0.length c0_0], .int .i64 1048576] rfl am ?_; (with_reducible refine (laws_szDisk.calls k _ _ l0_0 1048576 t262 _ ?side1 ?side2 A3.out).mono ?_); (case side1 => repeat (first | exact (Kd.C_below HR0_0.out HB.out) | (with_reducible refine Kd.C_alloc ?_ _) | (with_reducible refine Kd.C_drewN ?_ _) | (with_reducible refine Kd.C_drew ?_))); (case side2 => exact HC0_0.out); rintro e w12 ⟨rfl, hb⟩; refine ⟨_, rfl, ?_⟩; have n0_ := AM (blk_below (bk BK261) hb); have n1_ := AM (below_step (hS) hb); clear BK261; clear HB; have BK261 := n0_; have HB := n1_; clear n0_ n1_; (try clear hb)) | ((with_reducible refine gate_callee (f := 22) rfl ?_); refine goesL_ (some 24) rfl rfl Try.func22 (by kernel_rfl) rfl #[.slice A1 l1.length c1, .int .i64 t262] rfl am ?_; (with_reducible refine (laws_szActS.calls k _ _ l1 t262 t263 _ ?side1 ?side2 A8.out).mono ?_); (case side1 => repeat (first | exact (Kd.C_below HR1.out HB.out) | (with_reducible refine Kd.C_alloc ?_ _) | (with_reducible refine Kd.C_drewN ?_ _) | (with_reducible refine Kd.C_drew ?_))); (case side2 => exact HC1.out); rintro e w13 ⟨rfl, hb⟩; refine ⟨_, rfl, ?_⟩; have n0_ := AM (blk_below (bk BK261) hb); have n1_ := AM (below_step (hS) hb); clear BK261; clear HB; have BK261 := n0_; have HB := n1_; clear n0_ n1_; (try clear hb)))
  go_ret
  exact ⟨by first | rfl | (simp [errW_none, errW_some] <;> rfl) | (simp [*, errW_none, errW_some] <;> rfl), hS⟩
 rw [if_neg c9] at H
 have c9b0 : decide (t263 < 0) = false := decide_eq_false c9
 clear c9
 replace H := bm H
 obtain ⟨t264, A140, H⟩ := H
 replace H : ((laws_toActS.f k l1).bind fun t267 => ((spec_DoActs.f k t264 t267).bind fun bt270 => ((laws_toDisk.f k l0_0).bind fun t275 => ((laws_toActS.f k l1).bind fun t279 => ((impl_DoActs.f k t275 t279).bind fun bt282 => ((laws_eqDisk.f k bt282.1 bt270.1).bind fun t287 => (if t287 = true then (laws_FnExactDoActs.j0 k l1 bt270.2 t279 bt282.2 (bt282.2 != bt270.2) l0_0 bt270.1 t275 bt282.1) else (laws_FnExactDoActs.j0 k l1 bt270.2 t279 bt282.2 true l0_0 bt270.1 t275 bt282.1)))))))) = some r := H
 have A14 := AM A140
 clear A140
 replace H := bm H
 obtain ⟨t267, A150, H⟩ := H
 replace H : ((spec_DoActs.f k t264 t267).bind fun bt270 => ((laws_toDisk.f k l0_0).bind fun t275 => ((laws_toActS.f k l1).bind fun t279 => ((impl_DoActs.f k t275 t279).bind fun bt282 => ((laws_eqDisk.f k bt282.1 bt270.1).bind fun t287 => (if t287 = true then (laws_FnExactDoActs.j0 k l1 bt270.2 t279 bt282.2 (bt282.2 != bt270.2) l0_0 bt270.1 t275 bt282.1) else (laws_FnExactDoActs.j0 k l1 bt270.2 t279 bt282.2 true l0_0 bt270.1 t275 bt282.1))))))) = some r := H
 have A15 := AM A150
 clear A150
 replace H := bm H
 obtain ⟨⟨t270, t273⟩, A160, H⟩ := H
 replace H : ((laws_toDisk.f k l0_0).bind fun t275 => ((laws_toActS.f k l1).bind fun t279 => ((impl_DoActs.f k t275 t279).bind fun bt282 => ((laws_eqDisk.f k bt282.1 t270).bind fun t287 => (if t287 = true then (laws_FnExactDoActs.j0 k l1 t273 t279 bt282.2 (bt282.2 != t273) l0_0 t270 t275 bt282.1) else (laws_FnExactDoActs.j0 k l1 t273 t279 bt282.2 true l0_0 t270 t275 bt282.1)))))) = some r := H
 have A16 := AM A160
 clear A160
 replace H := bm H
 obtain ⟨t275, A170, H⟩ := H
 replace H : ((laws_toActS.f k l1).bind fun t279 => ((impl_DoActs.f k t275 t279).bind fun bt282 => ((laws_eqDisk.f k bt282.1 t270).bind fun t287 => (if t287 = true then (laws_FnExactDoActs.j0 k l1 t273 t279 bt282.2 (bt282.2 != t273) l0_0 t270 t275 bt282.1) else (laws_FnExactDoActs.j0 k l1 t273 t279 bt282.2 true l0_0 t270 t275 bt282.1))))) = some r := H
 have A17 := AM A170
 clear A170
 replace H := bm H
 obtain ⟨t279, A180, H⟩ := H
 replace H : ((impl_DoActs.f k t275 t279).bind fun bt282 => ((laws_eqDisk.f k bt282.1 t270).bind fun t287 => (if t287 = true then (laws_FnExactDoActs.j0 k l1 t273 t279 bt282.2 (bt282.2 != t273) l0_0 t270 t275 bt282.1) else (laws_FnExactDoActs.j0 k l1 t273 t279 bt282.2 true l0_0 t270 t275 bt282.1)))) = some r := H
 have A18 := AM A180
 clear A180
 replace H := bm H
 obtain ⟨⟨t282, t285⟩, A190, H⟩ := H
 replace H : ((laws_eqDisk.f k t282 t270).bind fun t287 => (if t287 = true then (laws_FnExactDoActs.j0 k l1 t273 t279 t285 (t285 != t273) l0_0 t270 t275 t282) else (laws_FnExactDoActs.j0 k l1 t273 t279 t285 true l0_0 t270 t275 t282))) = some r := H
 have A19 := AM A190
 clear A190
 have HC20 := AM H
 clear H
 go_enter Try.func6, Try.ntmps6
 go_upto_region 12 with (first | ((with_reducible refine gate_dst (N := 2) rfl ?_); refine bx (N := 2) (cs := #[.slice A0_0 l0_0.length c0_0]) (t := 24) ?_; intro gb261 hg w21 hbox hb; have n0_ := AM (below_step (hB HB) hb); have n1_ := AM (hbox); have n2_ := AM (bs hg HB); have n3_ := AM (bs hg HB); clear HB; have HB := n0_; have BK261 := n1_; have GW261 := n2_; have GE261 := n3_; clear n0_ n1_ n2_ n3_; clear hb hbox hg; have hcz22_0 : w21.cell? ⟨gb261, 0, none⟩ = some (.slice A0_0 l0_0.length c0_0) := bc BK261 0; have hfz22_0 := blk_frozen BK261.out 0) | ((with_reducible refine gate_callee (f := 9) rfl ?_); refine goesL_ (some 19) rfl rfl Try.func9 (by kernel_rfl) rfl #[.agg #[.slice A0_0 l0_0.length c0_0], .int .i64 1048576] rfl am ?_; (with_reducible refine (laws_szDisk.calls k _ _ l0_0 1048576 t262 _ ?side1 ?side2 A3.out).mono ?_); (case side1 => repeat (first | exact (Kd.C_below HR0_0.out HB.out) | (with_reducible refine Kd.C_alloc ?_ _) | (with_reducible refine Kd.C_drewN ?_ _) | (with_reducible refine Kd.C_drew ?_))); (case side2 => exact HC0_0.out); rintro e w23 ⟨rfl, hb⟩; refine ⟨_, rfl, ?_⟩; have n0_ := AM (blk_below (bk BK261) hb); have n1_ := AM (below_step (hS) hb); clear BK261; clear HB; have BK261 := n0_; have HB := n1_; clear n0_ n1_; (try clear hb)) | ((with_reducible refine gate_callee (f := 22) rfl ?_); refine goesL_ (some 24) rfl rfl Try.func22 (by kernel_rfl) rfl #[.slice A1 l1.length c1, .int .i64 t262] rfl am ?_; (with_reducible refine (laws_szActS.calls k _ _ l1 t262 t263 _ ?side1 ?side2 A8.out).mono ?_); (case side1 => repeat (first | exact (Kd.C_below HR1.out HB.out) | (with_reducible refine Kd.C_alloc ?_ _) | (with_reducible refine Kd.C_drewN ?_ _) | (with_reducible refine Kd.C_drew ?_))); (case side2 => exact HC1.out); rintro e w24 ⟨rfl, hb⟩; refine ⟨_, rfl, ?_⟩; have n0_ := AM (blk_below (bk BK261) hb); have n1_ := AM (below_step (hS) hb); clear BK261; clear HB; have BK261 := n0_; have HB := n1_; clear n0_ n1_; (try clear hb); have hcz25_0 : w24.cell? ⟨gb261, 0, none⟩ = some (.slice A0_0 l0_0.length c0_0) := bc BK261 0; have hfz25_0 := blk_frozen BK261.out 0) | ((with_reducible refine gate_callee (f := 11) rfl ?_); refine goesL_ (some 29) rfl rfl Try.func11 (by kernel_rfl) rfl #[.agg #[.slice A0_0 l0_0.length c0_0]] rfl am ?_; (with_reducible refine (laws_toDisk.calls k _ _ l0_0 t264 _ ?side1 ?side2 A14.out).mono ?_); (case side1 => repeat (first | exact (Kd.C_below HR0_0.out HB.out) | (with_reducible refine Kd.C_alloc ?_ _) | (with_reducible refine Kd.C_drewN ?_ _) | (with_reducible refine Kd.C_drew ?_))); (case side2 => exact HC0_0.out); rintro e w26 ⟨v265, rfl, ho0, hb⟩; refine ⟨_, rfl, ?_⟩; have n0_ := AM (Kd.R_lower ho0 (below_size (hS))); have n1_ := AM (blk_below (bk BK261) hb); have n2_ := AM (below_step (hS) hb); clear BK261; clear HB; have HO266 := n0_; have BK261 := n1_; have HB := n2_; clear n0_ n1_ n2_; (try clear hb); (try clear ho0)) | ((with_reducible refine gate_callee (f := 24) rfl ?_); refine goesL_ (some 31) rfl rfl Try.func24 (by kernel_rfl) rfl #[.slice A1 l1.length c1] rfl am ?_; (with_reducible refine (laws_toActS.calls k _ _ l1 t267 _ ?side1 ?side2 A15.out).mono ?_); (case side1 => repeat (first | exact (Kd.C_below HR1.out HB.out) | (with_reducible refine Kd.C_alloc ?_ _) | (with_reducible refine Kd.C_drewN ?_ _) | (with_reducible refine Kd.C_drew ?_))); (case side2 => exact HC1.out); rintro e w27 ⟨v268, rfl, ho0, hb⟩; refine ⟨_, rfl, ?_⟩; have n0_ := AM (Kd.R_below (by exact HO266.out) hb); have n1_ := AM (Kd.R_lower ho0 (below_size (hS))); have n2_ := AM (blk_below (bk BK261) hb); have n3_ := AM (below_step (hS) hb); clear HO266; clear BK261; clear HB; have HO266 := n0_; have HO269 := n1_; have BK261 := n2_; have HB := n3_; clear n0_ n1_ n2_ n3_; (try clear hb); (try clear ho0); obtain ⟨Ao28, co28, eo28⟩ := Kd.R_slice HO266.out; subst eo28; obtain ⟨Ao29, co29, eo29⟩ := Kd.R_slice HO269.out; subst eo29) | ((with_reducible refine gate_callee (f := 23) rfl ?_); refine goesL_ (some 32) rfl rfl Try.func23 (by kernel_rfl) rfl #[.agg #[.slice Ao28 t264.length co28], .slice Ao29 t267.length co29] rfl am ?_; (with_reducible refine (spec_DoActs.calls k _ _ t264 _ _ t267 t270 t273 _ ?side1 ?side2 ?side3 ?side4 A16.out).mono ?_); (case side1 => repeat (first | exact (Kd.R_reads' HO266.out).2.2 | (with_reducible refine Kd.C_alloc ?_ _) | (with_reducible refine Kd.C_drewN ?_ _) | (with_reducible refine Kd.C_drew ?_))); (case side2 => exact (Kd.R_reads' HO266.out).2.1); (case side3 => repeat (first | exact (Kd.R_reads' HO269.out).2.2 | (with_reducible refine Kd.C_alloc ?_ _) | (with_reducible refine Kd.C_drewN ?_ _) | (with_reducible refine Kd.C_drew ?_))); (case side4 => exact (Kd.R_reads' HO269.out).2.1); rintro e w30 ⟨v271, rfl, ho0, hb⟩; refine ⟨_, rfl, ?_⟩; have n0_ := AM (Kd.R_elder' (by exact HO266.out) (Kd.R_base ho0) hb); have n1_ := AM (Kd.R_below (by exact HO269.out) hb); have n2_ := AM (Kd.R_lower (Kd.R_new' ho0 (Kd.R_lt (by exact HO266.out))) (below_size (hS))); have n3_ := AM (blk_below (bk BK261) hb); have n4_ := AM (below_step (hS) hb); clear HO266; clear HO269; clear BK261; clear HB; have HO266 := n0_; have HO269 := n1_; have HO272 := n2_; have BK261 := n3_; have HB := n4_; clear n0_ n1_ n2_ n3_ n4_; (try clear hb); (try clear ho0)) | ((with_reducible refine gate_dst (N := 6) rfl ?_); refine bx (N := 6) (cs := #[.slice none 0 0]) (t := 30) ?_; intro gb274 hg w31 hbox hb; have n0_ := AM (Kd.R_below (by exact HO266.out) hb); have n1_ := AM (Kd.R_below (by exact HO269.out) hb); have n2_ := AM (Kd.R_below (by exact HO272.out) hb); have n3_ := AM (blk_below (bk BK261) hb); have n4_ := AM (below_step (hS) hb); have n5_ := AM (hbox); have n6_ := AM (bt hg hS); have n7_ := AM (bt hg hS); have n8_ := AM (nl hg (bk BK261)); have n9_ := AM (ng hg (bk BK261)); clear HO266; clear HO269; clear HO272; clear BK261; clear HB; have HO266 := n0_; have HO269 := n1_; have HO272 := n2_; have BK261 := n3_; have HB := n4_; have BK274 := n5_; have GW274 := n6_; have GE274 := n7_; have NB261_274 := n8_; have NB274_261 := n9_; clear n0_ n1_ n2_ n3_ n4_ n5_ n6_ n7_ n8_ n9_; clear hb hbox hg; obtain ⟨Ao32, co32, eo32⟩ := Kd.R_slice HO272.out; subst eo32; have hnb33 := NB274_261.out; have hnc33 := NB261_274.out; have hcz34_0 : w31.cell? ⟨gb274, 0, none⟩ = some (.slice none 0 0) := bc BK274 0; have hfz34_0 := blk_frozen BK274.out 0; have hcz35_0 : w31.cell? ⟨gb261, 0, none⟩ = some (.slice A0_0 l0_0.length c0_0) := bc BK261 0; have hfz35_0 := blk_frozen BK261.out 0) | ((with_reducible refine gate_callee (f := 11) rfl ?_); refine goesL_ (some 36) rfl rfl Try.func11 (by kernel_rfl) rfl #[.agg #[.slice A0_0 l0_0.length c0_0]] rfl am ?_; (with_reducible refine (laws_toDisk.calls k _ _ l0_0 t275 _ ?side1 ?side2 A17.out).mono ?_); (case side1 => exact Kd.C_below HR0_0.out (hS)); (case side2 => exact HC0_0.out); rintro e w36 ⟨v276, rfl, ho0, hb⟩; refine ⟨_, rfl, ?_⟩; have n0_ := AM (Kd.R_elder' (by exact (Kd.R_mono (Kd.R_far (p := ⟨gb274, 0, none⟩) (Kd.R_types HO266.out BK274.out (by decide)) (fun _ hk => hk.2) (.slice Ao32 t270.length co32)) (fun _ h_ => h_.1))) (Kd.R_base ho0) hb); have n1_ := AM (Kd.R_below (by exact (Kd.R_mono (Kd.R_far (p := ⟨gb274, 0, none⟩) (Kd.R_types HO269.out BK274.out (by decide)) (fun _ hk => hk.2) (.slice Ao32 t270.length co32)) (fun _ h_ => h_.1))) hb); have n2_ := AM (Kd.R_elder' (by exact (Kd.R_mono (Kd.R_far (p := ⟨gb274, 0, none⟩) (Kd.R_types HO272.out BK274.out (by decide)) (fun _ hk => hk.2) (.slice Ao32 t270.length co32)) (fun _ h_ => h_.1))) (Kd.R_base ho0) hb); have n3_ := AM (Kd.R_lower (Kd.R_new' (Kd.R_new' ho0 (Kd.R_lt (by exact (Kd.R_mono (Kd.R_far (p := ⟨gb274, 0, none⟩) (Kd.R_types HO266.out BK274.out (by decide)) (fun _ hk => hk.2) (.slice Ao32 t270.length co32)) (fun _ h_ => h_.1))))) (Kd.R_lt (by exact (Kd.R_mono (Kd.R_far (p := ⟨gb274, 0, none⟩) (Kd.R_types HO272.out BK274.out (by decide)) (fun _ hk => hk.2) (.slice Ao32 t270.length co32)) (fun _ h_ => h_.1))))) (below_size (hS))); have n4_ := AM (blk_below (g := gb261) (o := .cells #[.slice A0_0 l0_0.length c0_0] 24 (0, 0)) (be) hb); have n5_ := AM (blk_below (g := gb274) (o := .cells #[.slice Ao32 t270.length co32] 30 (0, 0)) (by (with_reducible repeat first | apply aN | apply aD | apply aA); refine blk_put (cs := #[.slice none 0 0]) ?_ 0 _ rfl; exact bk BK274) hb); have n6_ := AM (below_step (hS) hb); clear HO266; clear HO269; clear HO272; clear BK261; clear BK274; clear HB; have HO266 := n0_; have HO269 := n1_; have HO272 := n2_; have HO277 := n3_; have BK261 := n4_; have BK274 := n5_; have HB := n6_; clear n0_ n1_ n2_ n3_ n4_ n5_ n6_; (try clear hb); (try clear hk); (try clear ho0)) | ((with_reducible refine gate_dst (N := 8) rfl ?_); refine bx (N := 8) (cs := #[.slice none 0 0]) (t := 30) ?_; intro gb278 hg w37 hbox hb; have n0_ := AM (Kd.R_below (by exact HO266.out) hb); have n1_ := AM (Kd.R_below (by exact HO269.out) hb); have n2_ := AM (Kd.R_below (by exact HO272.out) hb); have n3_ := AM (Kd.R_below (by exact HO277.out) hb); have n4_ := AM (blk_below (bk BK261) hb); have n5_ := AM (blk_below (bk BK274) hb); have n6_ := AM (below_step (hS) hb); have n7_ := AM (hbox); have n8_ := AM (bt hg hS); have n9_ := AM (bt hg hS); have n10_ := AM (nl hg (bk BK261)); have n11_ := AM (ng hg (bk BK261)); have n12_ := AM (nl hg (bk BK274)); have n13_ := AM (ng hg (bk BK274)); clear HO266; clear HO269; clear HO272; clear HO277; clear BK261; clear BK274; clear HB; have HO266 := n0_; have HO269 := n1_; have HO272 := n2_; have HO277 := n3_; have BK261 := n4_; have BK274 := n5_; have HB := n6_; have BK278 := n7_; have GW278 := n8_; have GE278 := n9_; have NB261_278 := n10_; have NB278_261 := n11_; have NB274_278 := n12_; have NB278_274 := n13_; clear n0_ n1_ n2_ n3_ n4_ n5_ n6_ n7_ n8_ n9_ n10_ n11_ n12_ n13_; clear hb hbox hg; obtain ⟨Ao38, co38, eo38⟩ := Kd.R_slice HO277.out; subst eo38; have hnb39 := NB278_261.out; have hnc39 := NB261_278.out; have hnb40 := NB278_274.out; have hnc40 := NB274_278.out; have hcz41_0 : w37.cell? ⟨gb278, 0, none⟩ = some (.slice none 0 0) := bc BK278 0; have hfz41_0 := blk_frozen BK278.out 0) | ((with_reducible refine gate_callee (f := 24) rfl ?_); refine goesL_ (some 38) rfl rfl Try.func24 (by kernel_rfl) rfl #[.slice A1 l1.length c1] rfl am ?_; (with_reducible refine (laws_toActS.calls k _ _ l1 t279 _ ?side1 ?side2 A18.out).mono ?_); (case side1 => exact Kd.C_below HR1.out (hS)); (case side2 => exact HC1.out); rintro e w42 ⟨v280, rfl, ho0, hb⟩; refine ⟨_, rfl, ?_⟩; have n0_ := AM (Kd.R_below (by exact (Kd.R_mono (Kd.R_far (p := ⟨gb278, 0, none⟩) (Kd.R_types HO266.out BK278.out (by decide)) (fun _ hk => hk.2) (.slice Ao38 t275.length co38)) (fun _ h_ => h_.1))) hb); have n1_ := AM (Kd.R_elder' (by exact (Kd.R_mono (Kd.R_far (p := ⟨gb278, 0, none⟩) (Kd.R_types HO269.out BK278.out (by decide)) (fun _ hk => hk.2) (.slice Ao38 t275.length co38)) (fun _ h_ => h_.1))) (Kd.R_base ho0) hb); have n2_ := AM (Kd.R_below (by exact (Kd.R_mono (Kd.R_far (p := ⟨gb278, 0, none⟩) (Kd.R_types HO272.out BK278.out (by decide)) (fun _ hk => hk.2) (.slice Ao38 t275.length co38)) (fun _ h_ => h_.1))) hb); have n3_ := AM (Kd.R_below (by exact (Kd.R_mono (Kd.R_far (p := ⟨gb278, 0, none⟩) (Kd.R_types HO277.out BK278.out (by decide)) (fun _ hk => hk.2) (.slice Ao38 t275.length co38)) (fun _ h_ => h_.1))) hb); have n4_ := AM (Kd.R_lower (Kd.R_new' ho0 (Kd.R_lt (by exact (Kd.R_mono (Kd.R_far (p := ⟨gb278, 0, none⟩) (Kd.R_types HO269.out BK278.out (by decide)) (fun _ hk => hk.2) (.slice Ao38 t275.length co38)) (fun _ h_ => h_.1))))) (below_size (hS))); have n5_ := AM (blk_below (g := gb261) (o := .cells #[.slice A0_0 l0_0.length c0_0] 24 (0, 0)) (be) hb); have n6_ := AM (blk_below (g := gb274) (o := .cells #[.slice Ao32 t270.length co32] 30 (0, 0)) (be) hb); have n7_ := AM (blk_below (g := gb278) (o := .cells #[.slice Ao38 t275.length co38] 30 (0, 0)) (by (with_reducible repeat first | apply aN | apply aD | apply aA); refine blk_put (cs := #[.slice none 0 0]) ?_ 0 _ rfl; exact bk BK278) hb); have n8_ := AM (below_step (hS) hb); clear HO266; clear HO269; clear HO272; clear HO277; clear BK261; clear BK274; clear BK278; clear HB; have HO266 := n0_; have HO269 := n1_; have HO272 := n2_; have HO277 := n3_; have HO281 := n4_; have BK261 := n5_; have BK274 := n6_; have BK278 := n7_; have HB := n8_; clear n0_ n1_ n2_ n3_ n4_ n5_ n6_ n7_ n8_; (try clear hb); (try clear hk); (try clear ho0); have hcz43_0 : w42.cell? ⟨gb278, 0, none⟩ = some (.slice Ao38 t275.length co38) := bc BK278 0; have hfz43_0 := blk_frozen BK278.out 0; obtain ⟨Ao44, co44, eo44⟩ := Kd.R_slice HO281.out; subst eo44) | ((with_reducible refine gate_callee (f := 25) rfl ?_); refine goesL_ (some 42) rfl rfl Try.func25 (by kernel_rfl) rfl #[.agg #[.slice Ao38 t275.length co38], .slice Ao44 t279.length co44] rfl am ?_; (with_reducible refine (impl_DoActs.calls k _ _ t275 _ _ t279 t282 t285 _ ?side1 ?side2 ?side3 ?side4 A19.out).mono ?_); (case side1 => repeat (first | exact (Kd.R_reads' HO277.out).2.2 | (with_reducible refine Kd.C_alloc ?_ _) | (with_reducible refine Kd.C_drewN ?_ _) | (with_reducible refine Kd.C_drew ?_))); (case side2 => exact (Kd.R_reads' HO277.out).2.1); (case side3 => repeat (first | exact (Kd.R_reads' HO281.out).2.2 | (with_reducible refine Kd.C_alloc ?_ _) | (with_reducible refine Kd.C_drewN ?_ _) | (with_reducible refine Kd.C_drew ?_))); (case side4 => exact (Kd.R_reads' HO281.out).2.1); rintro e w45 ⟨v283, rfl, ho0, hb⟩; refine ⟨_, rfl, ?_⟩; have n0_ := AM (Kd.R_elder' (by exact HO266.out) (Kd.R_base ho0) hb); have n1_ := AM (Kd.R_below (by exact HO269.out) hb); have n2_ := AM (Kd.R_elder' (by exact HO272.out) (Kd.R_base ho0) hb); have n3_ := AM (Kd.R_elder' (by exact HO277.out) (Kd.R_base ho0) hb); have n4_ := AM (Kd.R_below (by exact HO281.out) hb); have n5_ := AM (Kd.R_lower (Kd.R_new' (Kd.R_new' (Kd.R_new' ho0 (Kd.R_lt (by exact HO266.out))) (Kd.R_lt (by exact HO272.out))) (Kd.R_lt (by exact HO277.out))) (below_size (hS))); have n6_ := AM (blk_below (bk BK261) hb); have n7_ := AM (blk_below (bk BK274) hb); have n8_ := AM (blk_below (bk BK278) hb); have n9_ := AM (below_step (hS) hb); clear HO266; clear HO269; clear HO272; clear HO277; clear HO281; clear BK261; clear BK274; clear BK278; clear HB; have HO266 := n0_; have HO269 := n1_; have HO272 := n2_; have HO277 := n3_; have HO281 := n4_; have HO284 := n5_; have BK261 := n6_; have BK274 := n7_; have BK278 := n8_; have HB := n9_; clear n0_ n1_ n2_ n3_ n4_ n5_ n6_ n7_ n8_ n9_; (try clear hb); (try clear ho0)) | ((with_reducible refine gate_dst (N := 10) rfl ?_); refine bx (N := 10) (cs := #[.slice none 0 0]) (t := 30) ?_; intro gb286 hg w46 hbox hb; have n0_ := AM (Kd.R_below (by exact HO266.out) hb); have n1_ := AM (Kd.R_below (by exact HO269.out) hb); have n2_ := AM (Kd.R_below (by exact HO272.out) hb); have n3_ := AM (Kd.R_below (by exact HO277.out) hb); have n4_ := AM (Kd.R_below (by exact HO281.out) hb); have n5_ := AM (Kd.R_below (by exact HO284.out) hb); have n6_ := AM (blk_below (bk BK261) hb); have n7_ := AM (blk_below (bk BK274) hb); have n8_ := AM (blk_below (bk BK278) hb); have n9_ := AM (below_step (hS) hb); have n10_ := AM (hbox); have n11_ := AM (bt hg hS); have n12_ := AM (bt hg hS); have n13_ := AM (nl hg (bk BK261)); have n14_ := AM (ng hg (bk BK261)); have n15_ := AM (nl hg (bk BK274)); have n16_ := AM (ng hg (bk BK274)); have n17_ := AM (nl hg (bk BK278)); have n18_ := AM (ng hg (bk BK278)); clear HO266; clear HO269; clear HO272; clear HO277; clear HO281; clear HO284; clear BK261; clear BK274; clear BK278; clear HB; have HO266 := n0_; have HO269 := n1_; have HO272 := n2_; have HO277 := n3_; have HO281 := n4_; have HO284 := n5_; have BK261 := n6_; have BK274 := n7_; have BK278 := n8_; have HB := n9_; have BK286 := n10_; have GW286 := n11_; have GE286 := n12_; have NB261_286 := n13_; have NB286_261 := n14_; have NB274_286 := n15_; have NB286_274 := n16_; have NB278_286 := n17_; have NB286_278 := n18_; clear n0_ n1_ n2_ n3_ n4_ n5_ n6_ n7_ n8_ n9_ n10_ n11_ n12_ n13_ n14_ n15_ n16_ n17_ n18_; clear hb hbox hg; obtain ⟨Ao47, co47, eo47⟩ := Kd.R_slice HO284.out; subst eo47; have hnb48 := NB286_261.out; have hnc48 := NB261_286.out; have hnb49 := NB286_274.out; have hnc49 := NB274_286.out; have hnb50 := NB286_278.out; have hnc50 := NB278_286.out; have hcz51_0 : w46.cell? ⟨gb286, 0, none⟩ = some (.slice none 0 0) := bc BK286 0; have hfz51_0 := blk_frozen BK286.out 0))
 (try simp only [Act.put, qT, q0, qS])
 go_cut [53] (fun v53 wc => ∃ (kq : Nat) (x53_19 : Bool), v53 = .bool x53_19 ∧ Aside0 (laws_FnExactDoActs.j0 kq l1 t273 t279 t285 x53_19 l0_0 t270 t275 t282 = some r) ∧ Aside0 (kq ≤ k) ∧ Aside0 (Kd.R k41 41 wc w.heap.size (fun _ => True) (.slice Ao44 t279.length co44) t279) ∧ Aside0 (Kd.R k67 67 wc w.heap.size (fun k_ => some k_ ≠ ((.slice Ao38 t275.length co38) : Value).ownBlock ∧ some k_ ≠ ((.slice Ao47 t282.length co47) : Value).ownBlock) (.slice Ao32 t270.length co32) t270) ∧ Aside0 (Kd.R k67 67 wc w.heap.size (fun k_ => some k_ ≠ ((.slice Ao32 t270.length co32) : Value).ownBlock ∧ some k_ ≠ ((.slice Ao47 t282.length co47) : Value).ownBlock) (.slice Ao38 t275.length co38) t275) ∧ Aside0 (Kd.R k67 67 wc w.heap.size (fun k_ => some k_ ≠ ((.slice Ao32 t270.length co32) : Value).ownBlock ∧ some k_ ≠ ((.slice Ao38 t275.length co38) : Value).ownBlock) (.slice Ao47 t282.length co47) t282) ∧ Aside0 (wc.heap[gb261]? = some (.cells #[(.slice A0_0 l0_0.length c0_0)] 24 (0, 0))) ∧ Aside0 (wc.heap[gb274]? = some (.cells #[(.slice Ao32 t270.length co32)] 30 (0, 0))) ∧ Aside0 (wc.heap[gb278]? = some (.cells #[(.slice Ao38 t275.length co38)] 30 (0, 0))) ∧ Aside0 (wc.heap[gb286]? = some (.cells #[(.slice Ao47 t282.length co47)] 30 (0, 0))) ∧ Aside0 (Below w.heap.size w wc))
 case first =>
  have H := HC20.out
  clear HC20
  replace H := bm H
  obtain ⟨t287, A520, H⟩ := H
  replace H : (if t287 = true then (laws_FnExactDoActs.j0 k l1 t273 t279 t285 (t285 != t273) l0_0 t270 t275 t282) else (laws_FnExactDoActs.j0 k l1 t273 t279 t285 true l0_0 t270 t275 t282)) = some r := H
  have A52 := AM A520
  clear A520
  by_cases c53 : t287 = true
  ·subst c53
   have H1 : (laws_FnExactDoActs.j0 k l1 t273 t279 t285 (t285 != t273) l0_0 t270 t275 t282) = some r := by rw [if_pos rfl] at H; exact H
   clear H
   have H := H1
   clear H1
   have H' := AM H
   clear H
   have hnb54 := NB286_261.out
   have hnc54 := NB261_286.out
   have hnb55 := NB286_274.out
   have hnc55 := NB274_286.out
   have hnb56 := NB286_278.out
   have hnc56 := NB278_286.out
   have hcz57_0 : w46.cell? ⟨gb286, 0, none⟩ = some (.slice none 0 0) := bc BK286 0
   have hfz57_0 := blk_frozen BK286.out 0
   have hnb58 := NB274_261.out
   have hnc58 := NB261_274.out
   have hnb59 := NB274_278.out
   have hnc59 := NB278_274.out
   have hcz60_0 : w46.cell? ⟨gb274, 0, none⟩ = some (.slice Ao32 t270.length co32) := bc BK274 0
   have hfz60_0 := blk_frozen BK274.out 0
   go_wp2_with (first | ((with_reducible refine gate_callee (f := 13) rfl ?_); refine goesL_ (some 47) rfl rfl Try.func13 (by kernel_rfl) rfl #[.agg #[.slice Ao47 t282.length co47], .agg #[.slice Ao32 t270.length co32]] rfl am ?_; (with_reducible refine (laws_eqDisk.calls k _ _ t282 _ _ t270 true _ ?side1 ?side2 ?side3 ?side4 A52.out).mono ?_); (case side1 => refine (Kd.R_reads' (e := 67) (base := w.heap.size) (ok := fun k_ => (((True ∧ some k_ ≠ (.slice Ao28 t264.length co28 : Value).ownBlock) ∧ some k_ ≠ (.slice Ao32 t270.length co32 : Value).ownBlock) ∧ some k_ ≠ (.slice Ao38 t275.length co38 : Value).ownBlock)) (n := t282.length) (c := co47) ?_).2.2; exact (by exact (Kd.R_mono (Kd.R_far (p := ⟨gb286, 0, none⟩) (Kd.R_types HO284.out BK286.out (by decide)) (fun _ hk => hk.2) (.slice Ao47 t282.length co47)) (fun _ h_ => h_.1)))); (case side2 => exact (Kd.R_reads' HO284.out).2.1); (case side3 => refine (Kd.R_reads' (e := 67) (base := w.heap.size) (ok := fun k_ => (((True ∧ some k_ ≠ (.slice Ao28 t264.length co28 : Value).ownBlock) ∧ some k_ ≠ (.slice Ao38 t275.length co38 : Value).ownBlock) ∧ some k_ ≠ (.slice Ao47 t282.length co47 : Value).ownBlock)) (n := t270.length) (c := co32) ?_).2.2; exact (by exact (Kd.R_mono (Kd.R_far (p := ⟨gb286, 0, none⟩) (Kd.R_types HO272.out BK286.out (by decide)) (fun _ hk => hk.2) (.slice Ao47 t282.length co47)) (fun _ h_ => h_.1)))); (case side4 => exact (Kd.R_reads' HO272.out).2.1); rintro e w61 ⟨rfl, hb⟩; refine ⟨_, rfl, ?_⟩; have n0_ := AM (Kd.R_below (by exact (Kd.R_mono (Kd.R_far (p := ⟨gb286, 0, none⟩) (Kd.R_types HO266.out BK286.out (by decide)) (fun _ hk => hk.2) (.slice Ao47 t282.length co47)) (fun _ h_ => h_.1))) hb); have n1_ := AM (Kd.R_below (by exact (Kd.R_mono (Kd.R_far (p := ⟨gb286, 0, none⟩) (Kd.R_types HO269.out BK286.out (by decide)) (fun _ hk => hk.2) (.slice Ao47 t282.length co47)) (fun _ h_ => h_.1))) hb); have n2_ := AM (Kd.R_below (by exact (Kd.R_mono (Kd.R_far (p := ⟨gb286, 0, none⟩) (Kd.R_types HO272.out BK286.out (by decide)) (fun _ hk => hk.2) (.slice Ao47 t282.length co47)) (fun _ h_ => h_.1))) hb); have n3_ := AM (Kd.R_below (by exact (Kd.R_mono (Kd.R_far (p := ⟨gb286, 0, none⟩) (Kd.R_types HO277.out BK286.out (by decide)) (fun _ hk => hk.2) (.slice Ao47 t282.length co47)) (fun _ h_ => h_.1))) hb); have n4_ := AM (Kd.R_below (by exact (Kd.R_mono (Kd.R_far (p := ⟨gb286, 0, none⟩) (Kd.R_types HO281.out BK286.out (by decide)) (fun _ hk => hk.2) (.slice Ao47 t282.length co47)) (fun _ h_ => h_.1))) hb); have n5_ := AM (Kd.R_below (by exact (Kd.R_mono (Kd.R_far (p := ⟨gb286, 0, none⟩) (Kd.R_types HO284.out BK286.out (by decide)) (fun _ hk => hk.2) (.slice Ao47 t282.length co47)) (fun _ h_ => h_.1))) hb); have n6_ := AM (blk_below (g := gb261) (o := .cells #[.slice A0_0 l0_0.length c0_0] 24 (0, 0)) (be) hb); have n7_ := AM (blk_below (g := gb274) (o := .cells #[.slice Ao32 t270.length co32] 30 (0, 0)) (be) hb); have n8_ := AM (blk_below (g := gb278) (o := .cells #[.slice Ao38 t275.length co38] 30 (0, 0)) (be) hb); have n9_ := AM (blk_below (g := gb286) (o := .cells #[.slice Ao47 t282.length co47] 30 (0, 0)) (by (with_reducible repeat first | apply aN | apply aD | apply aA); refine blk_put (cs := #[.slice none 0 0]) ?_ 0 _ rfl; exact bk BK286) hb); have n10_ := AM (below_step (hS) hb); clear HO266; clear HO269; clear HO272; clear HO277; clear HO281; clear HO284; clear BK261; clear BK274; clear BK278; clear BK286; clear HB; have HO266 := n0_; have HO269 := n1_; have HO272 := n2_; have HO277 := n3_; have HO281 := n4_; have HO284 := n5_; have BK261 := n6_; have BK274 := n7_; have BK278 := n8_; have BK286 := n9_; have HB := n10_; clear n0_ n1_ n2_ n3_ n4_ n5_ n6_ n7_ n8_ n9_ n10_; (try clear hb); (try clear hk)))
   go_meet
   case rel => exact ⟨_, ((t285 != t273)), (by first | rfl | (simp; done) | (simp [*]; done)), H', ⟨by first | omega | exact Nat.le_refl _⟩, ⟨by exact Kd.R_mono HO281.out (fun _ hk => trivial)⟩, ⟨by exact Kd.R_mono HO272.out (fun _ hk => ⟨hk.1.2, hk.2⟩)⟩, ⟨by exact Kd.R_mono HO277.out (fun _ hk => ⟨hk.1.2, hk.2⟩)⟩, ⟨by exact Kd.R_mono HO284.out (fun _ hk => ⟨hk.1.2, hk.2⟩)⟩, ⟨bk BK261⟩, ⟨bk BK274⟩, ⟨bk BK278⟩, ⟨bk BK286⟩, ⟨hS⟩⟩
  replace c53 := Bool.eq_false_iff.mpr c53
  subst c53
  have H1 : (laws_FnExactDoActs.j0 k l1 t273 t279 t285 true l0_0 t270 t275 t282) = some r := by rw [if_neg (show ¬ (false = true) by decide)] at H; exact H
  clear H
  have H := H1
  clear H1
  have H' := AM H
  clear H
  have hnb62 := NB286_261.out
  have hnc62 := NB261_286.out
  have hnb63 := NB286_274.out
  have hnc63 := NB274_286.out
  have hnb64 := NB286_278.out
  have hnc64 := NB278_286.out
  have hcz65_0 : w46.cell? ⟨gb286, 0, none⟩ = some (.slice none 0 0) := bc BK286 0
  have hfz65_0 := blk_frozen BK286.out 0
  have hnb66 := NB274_261.out
  have hnc66 := NB261_274.out
  have hnb67 := NB274_278.out
  have hnc67 := NB278_274.out
  have hcz68_0 : w46.cell? ⟨gb274, 0, none⟩ = some (.slice Ao32 t270.length co32) := bc BK274 0
  have hfz68_0 := blk_frozen BK274.out 0
  go_wp2_with (first | ((with_reducible refine gate_callee (f := 13) rfl ?_); refine goesL_ (some 47) rfl rfl Try.func13 (by kernel_rfl) rfl #[.agg #[.slice Ao47 t282.length co47], .agg #[.slice Ao32 t270.length co32]] rfl am ?_; (with_reducible refine (laws_eqDisk.calls k _ _ t282 _ _ t270 false _ ?side1 ?side2 ?side3 ?side4 A52.out).mono ?_); (case side1 => refine (Kd.R_reads' (e := 67) (base := w.heap.size) (ok := fun k_ => (((True ∧ some k_ ≠ (.slice Ao28 t264.length co28 : Value).ownBlock) ∧ some k_ ≠ (.slice Ao32 t270.length co32 : Value).ownBlock) ∧ some k_ ≠ (.slice Ao38 t275.length co38 : Value).ownBlock)) (n := t282.length) (c := co47) ?_).2.2; exact (by exact (Kd.R_mono (Kd.R_far (p := ⟨gb286, 0, none⟩) (Kd.R_types HO284.out BK286.out (by decide)) (fun _ hk => hk.2) (.slice Ao47 t282.length co47)) (fun _ h_ => h_.1)))); (case side2 => exact (Kd.R_reads' HO284.out).2.1); (case side3 => refine (Kd.R_reads' (e := 67) (base := w.heap.size) (ok := fun k_ => (((True ∧ some k_ ≠ (.slice Ao28 t264.length co28 : Value).ownBlock) ∧ some k_ ≠ (.slice Ao38 t275.length co38 : Value).ownBlock) ∧ some k_ ≠ (.slice Ao47 t282.length co47 : Value).ownBlock)) (n := t270.length) (c := co32) ?_).2.2; exact (by exact (Kd.R_mono (Kd.R_far (p := ⟨gb286, 0, none⟩) (Kd.R_types HO272.out BK286.out (by decide)) (fun _ hk => hk.2) (.slice Ao47 t282.length co47)) (fun _ h_ => h_.1)))); (case side4 => exact (Kd.R_reads' HO272.out).2.1); rintro e w69 ⟨rfl, hb⟩; refine ⟨_, rfl, ?_⟩; have n0_ := AM (Kd.R_below (by exact (Kd.R_mono (Kd.R_far (p := ⟨gb286, 0, none⟩) (Kd.R_types HO266.out BK286.out (by decide)) (fun _ hk => hk.2) (.slice Ao47 t282.length co47)) (fun _ h_ => h_.1))) hb); have n1_ := AM (Kd.R_below (by exact (Kd.R_mono (Kd.R_far (p := ⟨gb286, 0, none⟩) (Kd.R_types HO269.out BK286.out (by decide)) (fun _ hk => hk.2) (.slice Ao47 t282.length co47)) (fun _ h_ => h_.1))) hb); have n2_ := AM (Kd.R_below (by exact (Kd.R_mono (Kd.R_far (p := ⟨gb286, 0, none⟩) (Kd.R_types HO272.out BK286.out (by decide)) (fun _ hk => hk.2) (.slice Ao47 t282.length co47)) (fun _ h_ => h_.1))) hb); have n3_ := AM (Kd.R_below (by exact (Kd.R_mono (Kd.R_far (p := ⟨gb286, 0, none⟩) (Kd.R_types HO277.out BK286.out (by decide)) (fun _ hk => hk.2) (.slice Ao47 t282.length co47)) (fun _ h_ => h_.1))) hb); have n4_ := AM (Kd.R_below (by exact (Kd.R_mono (Kd.R_far (p := ⟨gb286, 0, none⟩) (Kd.R_types HO281.out BK286.out (by decide)) (fun _ hk => hk.2) (.slice Ao47 t282.length co47)) (fun _ h_ => h_.1))) hb); have n5_ := AM (Kd.R_below (by exact (Kd.R_mono (Kd.R_far (p := ⟨gb286, 0, none⟩) (Kd.R_types HO284.out BK286.out (by decide)) (fun _ hk => hk.2) (.slice Ao47 t282.length co47)) (fun _ h_ => h_.1))) hb); have n6_ := AM (blk_below (g := gb261) (o := .cells #[.slice A0_0 l0_0.length c0_0] 24 (0, 0)) (be) hb); have n7_ := AM (blk_below (g := gb274) (o := .cells #[.slice Ao32 t270.length co32] 30 (0, 0)) (be) hb); have n8_ := AM (blk_below (g := gb278) (o := .cells #[.slice Ao38 t275.length co38] 30 (0, 0)) (be) hb); have n9_ := AM (blk_below (g := gb286) (o := .cells #[.slice Ao47 t282.length co47] 30 (0, 0)) (by (with_reducible repeat first | apply aN | apply aD | apply aA); refine blk_put (cs := #[.slice none 0 0]) ?_ 0 _ rfl; exact bk BK286) hb); have n10_ := AM (below_step (hS) hb); clear HO266; clear HO269; clear HO272; clear HO277; clear HO281; clear HO284; clear BK261; clear BK274; clear BK278; clear BK286; clear HB; have HO266 := n0_; have HO269 := n1_; have HO272 := n2_; have HO277 := n3_; have HO281 := n4_; have HO284 := n5_; have BK261 := n6_; have BK274 := n7_; have BK278 := n8_; have BK286 := n9_; have HB := n10_; clear n0_ n1_ n2_ n3_ n4_ n5_ n6_ n7_ n8_ n9_ n10_; (try clear hb); (try clear hb2); (try clear hk); (try clear hi)))
  go_meet
  case rel => exact ⟨_, (true), (by first | rfl | (simp; done) | (simp [*]; done)), H', ⟨by first | omega | exact Nat.le_refl _⟩, ⟨by exact Kd.R_mono HO281.out (fun _ hk => trivial)⟩, ⟨by exact Kd.R_mono HO272.out (fun _ hk => ⟨hk.1.2, hk.2⟩)⟩, ⟨by exact Kd.R_mono HO277.out (fun _ hk => ⟨hk.1.2, hk.2⟩)⟩, ⟨by exact Kd.R_mono HO284.out (fun _ hk => ⟨hk.1.2, hk.2⟩)⟩, ⟨bk BK261⟩, ⟨bk BK274⟩, ⟨bk BK278⟩, ⟨bk BK286⟩, ⟨hS⟩⟩
 case rest =>
  clear HC20
  obtain ⟨kq, x53_19, rfl, HA, HJ19, HO_9, HO_275000, HO_279000, HO_287000, BK261, BK274, BK278, BK286, HB⟩ := hcut
  cases kq with
  | zero => exact absurd HA.out (by simp [laws_FnExactDoActs.j0])
  | succ kj19 =>
   have H := HA.out
   clear HA
   simp only [laws_FnExactDoActs.j0] at H
   by_cases c70 : x53_19 = true
   ·subst c70
    have H1 : (some false) = some r := by rw [if_pos rfl] at H; exact H
    clear H
    have H := H1
    clear H1
    exact absurd ((Option.some.inj H).trans hT.out) (by decide)
   replace c70 := Bool.eq_false_iff.mpr c70
   subst c70
   have H1 : ((laws_toDisk.f kj19 l0_0).bind fun t288 => ((laws_eqDisk.f kj19 t275 t288).bind fun t291 => (if t291 = true then ((laws_toActS.f kj19 l1).bind fun t292 => ((laws_eqActS.f kj19 t279 t292).bind fun t295 => (if t295 = true then ((laws_markDisk.f kj19 t275 1).bind fun bt296 => ((laws_markActS.f kj19 t279 bt296.1).bind fun bt298 => (if bt298.1 < 0 then (laws_FnExactDoActs.j1 kj19 l1 t273 true l0_0 t270 t282) else ((laws_eqDisk.f kj19 t282 t270).bind fun t300 => (if t300 = true then (laws_FnExactDoActs.j1 kj19 l1 t273 (t285 != t273) l0_0 t270 t282) else (laws_FnExactDoActs.j1 kj19 l1 t273 true l0_0 t270 t282)))))) else (some false)))) else (some false)))) = some r := by rw [if_neg (show ¬ (false = true) by decide)] at H; exact H
   clear H
   have H := H1
   clear H1
   replace H := bm H
   obtain ⟨t288, A710, H⟩ := H
   replace H : ((laws_eqDisk.f kj19 t275 t288).bind fun t291 => (if t291 = true then ((laws_toActS.f kj19 l1).bind fun t292 => ((laws_eqActS.f kj19 t279 t292).bind fun t295 => (if t295 = true then ((laws_markDisk.f kj19 t275 1).bind fun bt296 => ((laws_markActS.f kj19 t279 bt296.1).bind fun bt298 => (if bt298.1 < 0 then (laws_FnExactDoActs.j1 kj19 l1 t273 true l0_0 t270 t282) else ((laws_eqDisk.f kj19 t282 t270).bind fun t300 => (if t300 = true then (laws_FnExactDoActs.j1 kj19 l1 t273 (t285 != t273) l0_0 t270 t282) else (laws_FnExactDoActs.j1 kj19 l1 t273 true l0_0 t270 t282)))))) else (some false)))) else (some false))) = some r := H
   have A71 := AM A710
   clear A710
   replace H := bm H
   obtain ⟨t291, A720, H⟩ := H
   replace H : (if t291 = true then ((laws_toActS.f kj19 l1).bind fun t292 => ((laws_eqActS.f kj19 t279 t292).bind fun t295 => (if t295 = true then ((laws_markDisk.f kj19 t275 1).bind fun bt296 => ((laws_markActS.f kj19 t279 bt296.1).bind fun bt298 => (if bt298.1 < 0 then (laws_FnExactDoActs.j1 kj19 l1 t273 true l0_0 t270 t282) else ((laws_eqDisk.f kj19 t282 t270).bind fun t300 => (if t300 = true then (laws_FnExactDoActs.j1 kj19 l1 t273 (t285 != t273) l0_0 t270 t282) else (laws_FnExactDoActs.j1 kj19 l1 t273 true l0_0 t270 t282)))))) else (some false)))) else (some false)) = some r := H
   have A72 := AM A720
   clear A720
   by_cases c73 : t291 = true
   ·subst c73
    have H1 : ((laws_toActS.f kj19 l1).bind fun t292 => ((laws_eqActS.f kj19 t279 t292).bind fun t295 => (if t295 = true then ((laws_markDisk.f kj19 t275 1).bind fun bt296 => ((laws_markActS.f kj19 t279 bt296.1).bind fun bt298 => (if bt298.1 < 0 then (laws_FnExactDoActs.j1 kj19 l1 t273 true l0_0 t270 t282) else ((laws_eqDisk.f kj19 t282 t270).bind fun t300 => (if t300 = true then (laws_FnExactDoActs.j1 kj19 l1 t273 (t285 != t273) l0_0 t270 t282) else (laws_FnExactDoActs.j1 kj19 l1 t273 true l0_0 t270 t282)))))) else (some false)))) = some r := by rw [if_pos rfl] at H; exact H
    clear H
    have H := H1
    clear H1
    replace H := bm H
    obtain ⟨t292, A740, H⟩ := H
    replace H : ((laws_eqActS.f kj19 t279 t292).bind fun t295 => (if t295 = true then ((laws_markDisk.f kj19 t275 1).bind fun bt296 => ((laws_markActS.f kj19 t279 bt296.1).bind fun bt298 => (if bt298.1 < 0 then (laws_FnExactDoActs.j1 kj19 l1 t273 true l0_0 t270 t282) else ((laws_eqDisk.f kj19 t282 t270).bind fun t300 => (if t300 = true then (laws_FnExactDoActs.j1 kj19 l1 t273 (t285 != t273) l0_0 t270 t282) else (laws_FnExactDoActs.j1 kj19 l1 t273 true l0_0 t270 t282)))))) else (some false))) = some r := H
    have A74 := AM A740
    clear A740
    replace H := bm H
    obtain ⟨t295, A750, H⟩ := H
    replace H : (if t295 = true then ((laws_markDisk.f kj19 t275 1).bind fun bt296 => ((laws_markActS.f kj19 t279 bt296.1).bind fun bt298 => (if bt298.1 < 0 then (laws_FnExactDoActs.j1 kj19 l1 t273 true l0_0 t270 t282) else ((laws_eqDisk.f kj19 t282 t270).bind fun t300 => (if t300 = true then (laws_FnExactDoActs.j1 kj19 l1 t273 (t285 != t273) l0_0 t270 t282) else (laws_FnExactDoActs.j1 kj19 l1 t273 true l0_0 t270 t282)))))) else (some false)) = some r := H
    have A75 := AM A750
    clear A750
    by_cases c76 : t295 = true
    ·subst c76
     have H1 : ((laws_markDisk.f kj19 t275 1).bind fun bt296 => ((laws_markActS.f kj19 t279 bt296.1).bind fun bt298 => (if bt298.1 < 0 then (laws_FnExactDoActs.j1 kj19 l1 t273 true l0_0 t270 t282) else ((laws_eqDisk.f kj19 t282 t270).bind fun t300 => (if t300 = true then (laws_FnExactDoActs.j1 kj19 l1 t273 (t285 != t273) l0_0 t270 t282) else (laws_FnExactDoActs.j1 kj19 l1 t273 true l0_0 t270 t282)))))) = some r := by rw [if_pos rfl] at H; exact H
     clear H
     have H := H1
     clear H1
     replace H := bm H
     obtain ⟨⟨t296, t297⟩, A770, H⟩ := H
     replace H : ((laws_markActS.f kj19 t279 t296).bind fun bt298 => (if bt298.1 < 0 then (laws_FnExactDoActs.j1 kj19 l1 t273 true l0_0 t270 t282) else ((laws_eqDisk.f kj19 t282 t270).bind fun t300 => (if t300 = true then (laws_FnExactDoActs.j1 kj19 l1 t273 (t285 != t273) l0_0 t270 t282) else (laws_FnExactDoActs.j1 kj19 l1 t273 true l0_0 t270 t282))))) = some r := H
     have A77 := AM A770
     clear A770
     replace H := bm H
     obtain ⟨⟨t298, t299⟩, A780, H⟩ := H
     replace H : (if t298 < 0 then (laws_FnExactDoActs.j1 kj19 l1 t273 true l0_0 t270 t282) else ((laws_eqDisk.f kj19 t282 t270).bind fun t300 => (if t300 = true then (laws_FnExactDoActs.j1 kj19 l1 t273 (t285 != t273) l0_0 t270 t282) else (laws_FnExactDoActs.j1 kj19 l1 t273 true l0_0 t270 t282)))) = some r := H
     have A78 := AM A780
     clear A780
     have HC79 := AM H
     clear H
     try go_wp2
     have n0_ := AM (Kd.R_drew HO_9.out)
     have n1_ := AM (Kd.R_drew HO_275000.out)
     have n2_ := AM (Kd.R_drew HO_279000.out)
     have n3_ := AM (Kd.R_drew HO_287000.out)
     have n4_ := AM (blk_drew BK261.out)
     have n5_ := AM (blk_drew BK274.out)
     have n6_ := AM (blk_drew BK278.out)
     have n7_ := AM (blk_drew BK286.out)
     have n8_ := AM (below_drew1 HB.out)
     clear HO_9
     clear HO_275000
     clear HO_279000
     clear HO_287000
     clear BK261
     clear BK274
     clear BK278
     clear BK286
     clear HB
     have HO_9 := n0_
     have HO_275000 := n1_
     have HO_279000 := n2_
     have HO_287000 := n3_
     have BK261 := n4_
     have BK274 := n5_
     have BK278 := n6_
     have BK286 := n7_
     have HB := n8_
     clear n0_ n1_ n2_ n3_ n4_ n5_ n6_ n7_ n8_
     refine start_ (n := 5) (S := fun w' => w'.cell? ⟨gb278, 0, none⟩ = some (.slice Ao38 t275.length co38) ∧ w'.cell? ⟨gb261, 0, none⟩ = some (.slice A0_0 l0_0.length c0_0)) (ds := []) #[false, false, false, false, false] (by kernel_rfl) rfl rfl ⟨bc BK278 0, bc BK261 0⟩ (fun hHeld => ?_)
     generalize wc.drew = w80 at HO_9 HO_275000 HO_279000 HO_287000 BK261 BK274 BK278 BK286 HB hHeld ⊢
     refine take_ (i := 0) (N := some 54) (v := ?_) (a' := ?_) #[true, false, false, false, false] rfl rfl (by kernel_rfl) (fun _ _ _ h => h) (Or.inl ⟨by rfl, ?_⟩) hHeld ?_ ?_
     rotate_left
     ·rintro w' ⟨s0, s1⟩
      go_simp
      with_reducible rfl
     rotate_left
     ·simp only [Act.put, qT, q0, qS, i64_w, i32_w]
      rfl
     refine take_ (i := 1) (N := some 55) (v := ?_) (a' := ?_) #[true, true, false, false, false] rfl rfl (by kernel_rfl) (fun _ _ _ h => h) (Or.inl ⟨by rfl, ?_⟩) hHeld ?_ ?_
     rotate_left
     ·rintro w' ⟨s0, s1⟩
      go_simp
      with_reducible rfl
     rotate_left
     ·simp only [Act.put, qT, q0, qS, i64_w, i32_w]
      rfl
     refine one_ (i := 2) (N := some 56) #[true, true, true, false, false] rfl rfl (by kernel_rfl) (by decide) (fun K hK => ?_)
     refine goes_ Try.func11 (by kernel_rfl) rfl #[.agg #[.slice A0_0 l0_0.length c0_0]] (by rfl) rfl rfl am ?_
     with_reducible refine (laws_toDisk.calls kj19 _ _ l0_0 t288 _ ?side1 ?side2 A71.out).mono ?_
     (case side1 => repeat (first | exact (Kd.C_below HR0_0.out HB.out) | (with_reducible refine Kd.C_alloc ?_ _) | (with_reducible refine Kd.C_drewN ?_ _) | (with_reducible refine Kd.C_drew ?_)))
     (case side2 => exact HC0_0.out)
     rintro e w81 ⟨v289, rfl, ho0, hb⟩
     refine ⟨_, rfl, ?_⟩
     have n0_ := AM (Kd.R_below (by exact HO_9.out) hb)
     have n1_ := AM (Kd.R_elder' (by exact HO_275000.out) (Kd.R_base ho0) hb)
     have n2_ := AM (Kd.R_elder' (by exact HO_279000.out) (Kd.R_base ho0) hb)
     have n3_ := AM (Kd.R_elder' (by exact HO_287000.out) (Kd.R_base ho0) hb)
     have n4_ := AM (Kd.R_lower (Kd.R_new' (Kd.R_new' (Kd.R_new' ho0 (Kd.R_lt (by exact HO_275000.out))) (Kd.R_lt (by exact HO_279000.out))) (Kd.R_lt (by exact HO_287000.out))) (below_size (hS)))
     have n5_ := AM (blk_below (bk BK261) hb)
     have n6_ := AM (blk_below (bk BK274) hb)
     have n7_ := AM (blk_below (bk BK278) hb)
     have n8_ := AM (blk_below (bk BK286) hb)
     have n9_ := AM (below_step (hS) hb)
     clear HO_9
     clear HO_275000
     clear HO_279000
     clear HO_287000
     clear BK261
     clear BK274
     clear BK278
     clear BK286
     clear HB
     have HO_9 := n0_
     have HO_275000 := n1_
     have HO_279000 := n2_
     have HO_287000 := n3_
     have HO290 := n4_
     have BK261 := n5_
     have BK274 := n6_
     have BK278 := n7_
     have BK286 := n8_
     have HB := n9_
     clear n0_ n1_ n2_ n3_ n4_ n5_ n6_ n7_ n8_ n9_
     (try clear hb)
     (try clear hb2)
     (try clear hk)
     (try clear hi)
     (try clear ho0)
     obtain ⟨Ao82, co82, eo82⟩ := Kd.R_slice HO290.out
     (first | subst eo82 | (injection eo82 with f1_ f2_ f3_; have f4_ := f1_.symm; have f5_ := f3_.symm; clear f1_ f2_ f3_; subst f4_; subst f5_))
     refine hK.out _ _ ⟨bc BK278 0, bc BK261 0⟩ (fun hHeld => ?_)
     clear hK K
     refine norm_ (a' := ?_) ?_ ?_
     rotate_left
     ·show Act.put _ (some 56) _ = _
      simp only [Act.put, qT, q0, qS, i64_w, i32_w]
      rfl
     refine one_ (i := 3) (N := some 57) #[true, true, true, true, false] rfl rfl (by kernel_rfl) (by decide) (fun K hK => ?_)
     refine goes_ Try.func13 (by kernel_rfl) rfl #[.agg #[.slice Ao38 t275.length co38], .agg #[.slice Ao82 t288.length co82]] (by rfl) rfl rfl am ?_
     with_reducible refine (laws_eqDisk.calls kj19 _ _ t275 _ _ t288 true _ ?side1 ?side2 ?side3 ?side4 A72.out).mono ?_
     (case side1 => repeat (first | exact (Kd.R_reads' HO_279000.out).2.2 | (with_reducible refine Kd.C_alloc ?_ _) | (with_reducible refine Kd.C_drewN ?_ _) | (with_reducible refine Kd.C_drew ?_)))
     (case side2 => exact (Kd.R_reads' HO_279000.out).2.1)
     (case side3 => repeat (first | exact (Kd.R_reads' HO290.out).2.2 | (with_reducible refine Kd.C_alloc ?_ _) | (with_reducible refine Kd.C_drewN ?_ _) | (with_reducible refine Kd.C_drew ?_)))
     (case side4 => exact (Kd.R_reads' HO290.out).2.1)
     rintro e w83 ⟨rfl, hb⟩
     refine ⟨_, rfl, ?_⟩
     have n0_ := AM (Kd.R_below (by exact HO_9.out) hb)
     have n1_ := AM (Kd.R_below (by exact HO_275000.out) hb)
     have n2_ := AM (Kd.R_below (by exact HO_279000.out) hb)
     have n3_ := AM (Kd.R_below (by exact HO_287000.out) hb)
     have n4_ := AM (Kd.R_below (by exact HO290.out) hb)
     have n5_ := AM (blk_below (bk BK261) hb)
     have n6_ := AM (blk_below (bk BK274) hb)
     have n7_ := AM (blk_below (bk BK278) hb)
     have n8_ := AM (blk_below (bk BK286) hb)
     have n9_ := AM (below_step (hS) hb)
     clear HO_9
     clear HO_275000
     clear HO_279000
     clear HO_287000
     clear HO290
     clear BK261
     clear BK274
     clear BK278
     clear BK286
     clear HB
     have HO_9 := n0_
     have HO_275000 := n1_
     have HO_279000 := n2_
     have HO_287000 := n3_
     have HO290 := n4_
     have BK261 := n5_
     have BK274 := n6_
     have BK278 := n7_
     have BK286 := n8_
     have HB := n9_
     clear n0_ n1_ n2_ n3_ n4_ n5_ n6_ n7_ n8_ n9_
     (try clear hb)
     (try clear hb2)
     (try clear hk)
     (try clear hi)
     refine hK.out _ _ ⟨bc BK278 0, bc BK261 0⟩ (fun hHeld => ?_)
     clear hK K
     refine norm_ (a' := ?_) ?_ ?_
     rotate_left
     ·show Act.put _ (some 57) _ = _
      simp only [Act.put, qT, q0, qS, i64_w, i32_w]
      rfl
     refine pure_ (i := 4) (N := some 58) (v := ?_) (a' := ?_) #[true, true, true, true, true] rfl rfl (by kernel_rfl) (fun _ _ _ h => h) (Or.inl ⟨by rfl, ?_⟩) ?_ ?_
     rotate_left
     ·intro w'
      go_simp
      with_reducible rfl
     rotate_left
     ·simp only [Act.put, qT, q0, qS, i64_w, i32_w]
      rfl
     refine done_ (by kernel_rfl) ?_
     go_upto_region 21 with (first | ((with_reducible refine gate_callee (f := 24) rfl ?_); refine goesL_ (some 61) rfl rfl Try.func24 (by kernel_rfl) rfl #[.slice A1 l1.length c1] rfl am ?_; (with_reducible refine (laws_toActS.calls kj19 _ _ l1 t292 _ ?side1 ?side2 A74.out).mono ?_); (case side1 => repeat (first | exact (Kd.C_below HR1.out HB.out) | (with_reducible refine Kd.C_alloc ?_ _) | (with_reducible refine Kd.C_drewN ?_ _) | (with_reducible refine Kd.C_drew ?_))); (case side2 => exact HC1.out); rintro e w84 ⟨v293, rfl, ho0, hb⟩; refine ⟨_, rfl, ?_⟩; have n0_ := AM (Kd.R_elder' (by exact HO_9.out) (Kd.R_base ho0) hb); have n1_ := AM (Kd.R_below (by exact HO_275000.out) hb); have n2_ := AM (Kd.R_below (by exact HO_279000.out) hb); have n3_ := AM (Kd.R_below (by exact HO_287000.out) hb); have n4_ := AM (Kd.R_below (by exact HO290.out) hb); have n5_ := AM (Kd.R_lower (Kd.R_new' ho0 (Kd.R_lt (by exact HO_9.out))) (below_size (hS))); have n6_ := AM (blk_below (bk BK261) hb); have n7_ := AM (blk_below (bk BK274) hb); have n8_ := AM (blk_below (bk BK278) hb); have n9_ := AM (blk_below (bk BK286) hb); have n10_ := AM (below_step (hS) hb); clear HO_9; clear HO_275000; clear HO_279000; clear HO_287000; clear HO290; clear BK261; clear BK274; clear BK278; clear BK286; clear HB; have HO_9 := n0_; have HO_275000 := n1_; have HO_279000 := n2_; have HO_287000 := n3_; have HO290 := n4_; have HO294 := n5_; have BK261 := n6_; have BK274 := n7_; have BK278 := n8_; have BK286 := n9_; have HB := n10_; clear n0_ n1_ n2_ n3_ n4_ n5_ n6_ n7_ n8_ n9_ n10_; (try clear hb); (try clear ho0); obtain ⟨Ao85, co85, eo85⟩ := Kd.R_slice HO294.out; subst eo85) | ((with_reducible refine gate_callee (f := 26) rfl ?_); refine goesL_ (some 62) rfl rfl Try.func26 (by kernel_rfl) rfl #[.slice Ao44 t279.length co44, .slice Ao85 t292.length co85] rfl am ?_; (with_reducible refine (laws_eqActS.calls kj19 _ _ t279 _ _ t292 true _ ?side1 ?side2 ?side3 ?side4 A75.out).mono ?_); (case side1 => repeat (first | exact (Kd.R_reads' HO_9.out).2.2 | (with_reducible refine Kd.C_alloc ?_ _) | (with_reducible refine Kd.C_drewN ?_ _) | (with_reducible refine Kd.C_drew ?_))); (case side2 => exact (Kd.R_reads' HO_9.out).2.1); (case side3 => repeat (first | exact (Kd.R_reads' HO294.out).2.2 | (with_reducible refine Kd.C_alloc ?_ _) | (with_reducible refine Kd.C_drewN ?_ _) | (with_reducible refine Kd.C_drew ?_))); (case side4 => exact (Kd.R_reads' HO294.out).2.1); rintro e w86 ⟨rfl, hb⟩; refine ⟨_, rfl, ?_⟩; have n0_ := AM (Kd.R_below (by exact HO_9.out) hb); have n1_ := AM (Kd.R_below (by exact HO_275000.out) hb); have n2_ := AM (Kd.R_below (by exact HO_279000.out) hb); have n3_ := AM (Kd.R_below (by exact HO_287000.out) hb); have n4_ := AM (Kd.R_below (by exact HO290.out) hb); have n5_ := AM (Kd.R_below (by exact HO294.out) hb); have n6_ := AM (blk_below (bk BK261) hb); have n7_ := AM (blk_below (bk BK274) hb); have n8_ := AM (blk_below (bk BK278) hb); have n9_ := AM (blk_below (bk BK286) hb); have n10_ := AM (below_step (hS) hb); clear HO_9; clear HO_275000; clear HO_279000; clear HO_287000; clear HO290; clear HO294; clear BK261; clear BK274; clear BK278; clear BK286; clear HB; have HO_9 := n0_; have HO_275000 := n1_; have HO_279000 := n2_; have HO_287000 := n3_; have HO290 := n4_; have HO294 := n5_; have BK261 := n6_; have BK274 := n7_; have BK278 := n8_; have BK286 := n9_; have HB := n10_; clear n0_ n1_ n2_ n3_ n4_ n5_ n6_ n7_ n8_ n9_ n10_; (try clear hb); have hnb87 := NB278_261.out; have hnc87 := NB261_278.out; have hnb88 := NB278_274.out; have hnc88 := NB274_278.out; have hnb89 := NB278_286.out; have hnc89 := NB286_278.out; have hcz90_0 : w86.cell? ⟨gb278, 0, none⟩ = some (.slice Ao38 t275.length co38) := bc BK278 0; have hfz90_0 := blk_frozen BK278.out 0) | ((with_reducible refine gate_callee (f := 20) rfl ?_); refine goesL_ (some 66) rfl rfl Try.func20 (by kernel_rfl) rfl #[.agg #[.slice Ao38 t275.length co38], .int .i64 1] rfl am ?_; (with_reducible refine (laws_markDisk.calls kj19 (fun k_ => some k_ = (.slice Ao38 t275.length co38 : Value).ownBlock) (.slice Ao38 t275.length co38) t275 1 t296 t297 w _ ?side1 ?side2 A77.out).mono ?_); (case side1 => repeat (first | (with_reducible first | exact HB.out | apply bA | apply bN | apply bD | refine below_set ?_ GE261.out | refine below_set ?_ GE274.out | refine below_set ?_ GE278.out | refine below_set ?_ GE286.out) | exact HB.out)); (case side2 => exact Kd.R_tight rfl HO_279000.out); rintro e w91 ⟨rfl, hy0, hb, hkp⟩; refine ⟨_, rfl, ?_⟩; have n0_ := AM (Kd.R_mono (ok' := fun k_ => some k_ ≠ (.slice Ao85 t292.length co85 : Value).ownBlock) (Kd.R_keptB ((Kd.R_apart' HO_9.out (Kd.R_typed HO_279000.out) (by decide))) hkp (fun k_ hk_ hs_ => (hk_.2) hs_)) (fun k_ hk_ => hk_.1.1.2)); have n1_ := AM (Kd.R_mono (ok' := fun k_ => some k_ ≠ (.slice Ao38 t275.length co38 : Value).ownBlock ∧ some k_ ≠ (.slice Ao47 t282.length co47 : Value).ownBlock ∧ some k_ ≠ (.slice Ao82 t288.length co82 : Value).ownBlock) (Kd.R_keptB (HO_275000.out) hkp (fun k_ hk_ hs_ => (hk_.1.1) hs_)) (fun k_ hk_ => ⟨hk_.1.1.1, hk_.1.1.2, hk_.1.2⟩)); have n2_ := AM (Kd.R_reok rfl hy0 (fun k_ e_ => HO_279000.out.1 k_ e_)); have n3_ := AM (Kd.R_mono (ok' := fun k_ => some k_ ≠ (.slice Ao32 t270.length co32 : Value).ownBlock ∧ some k_ ≠ (.slice Ao38 t275.length co38 : Value).ownBlock ∧ some k_ ≠ (.slice Ao82 t288.length co82 : Value).ownBlock) (Kd.R_keptB (HO_287000.out) hkp (fun k_ hk_ hs_ => (hk_.1.2) hs_)) (fun k_ hk_ => ⟨hk_.1.1.1, hk_.1.1.2, hk_.1.2⟩)); have n4_ := AM (blk_kept (bk BK261) hkp (fun hs_ => (fun e_ => (Kd.R_ne HO_279000.out BK261.out (by decide)) e_) hs_)); have n5_ := AM (blk_kept (bk BK274) hkp (fun hs_ => (fun e_ => (Kd.R_ne HO_279000.out BK274.out (by decide)) e_) hs_)); have n6_ := AM (blk_kept (bk BK278) hkp (fun hs_ => (fun e_ => (Kd.R_ne HO_279000.out BK278.out (by decide)) e_) hs_)); have n7_ := AM (blk_kept (bk BK286) hkp (fun hs_ => (fun e_ => (Kd.R_ne HO_279000.out BK286.out (by decide)) e_) hs_)); have n8_ := AM (Kd.R_mono (ok' := fun k_ => some k_ ≠ (.slice Ao32 t270.length co32 : Value).ownBlock ∧ some k_ ≠ (.slice Ao38 t275.length co38 : Value).ownBlock ∧ some k_ ≠ (.slice Ao47 t282.length co47 : Value).ownBlock) (Kd.R_keptB (HO290.out) hkp (fun k_ hk_ hs_ => (hk_.1.2) hs_)) (fun k_ hk_ => ⟨hk_.1.1.1.2, hk_.1.1.2, hk_.1.2⟩)); have n9_ := AM (Kd.R_mono (ok' := fun k_ => some k_ ≠ (.slice Ao44 t279.length co44 : Value).ownBlock) (Kd.R_keptB ((Kd.R_apart' HO294.out (Kd.R_typed HO_279000.out) (by decide))) hkp (fun k_ hk_ hs_ => (hk_.2) hs_)) (fun k_ hk_ => hk_.1.1.2)); have n10_ := AM (hb); clear HO_9; clear HO_275000; clear HO_279000; clear HO_287000; clear BK261; clear BK274; clear BK278; clear BK286; clear HO290; clear HO294; clear HB; have HO_9 := n0_; have HO_275000 := n1_; have HO_279000 := n2_; have HO_287000 := n3_; have BK261 := n4_; have BK274 := n5_; have BK278 := n6_; have BK286 := n7_; have HO290 := n8_; have HO294 := n9_; have HB := n10_; clear n0_ n1_ n2_ n3_ n4_ n5_ n6_ n7_ n8_ n9_ n10_; (try clear hb); (try clear hkp); (try clear hy0)) | ((with_reducible refine gate_callee (f := 27) rfl ?_); refine goesL_ (some 69) rfl rfl Try.func27 (by kernel_rfl) rfl #[.slice Ao44 t279.length co44, .int .i64 t296] rfl am ?_; (with_reducible refine (laws_markActS.calls kj19 (fun k_ => some k_ = (.slice Ao44 t279.length co44 : Value).ownBlock) (.slice Ao44 t279.length co44) t279 t296 t298 t299 w _ ?side1 ?side2 A78.out).mono ?_); (case side1 => repeat (first | (with_reducible first | exact HB.out | apply bA | apply bN | apply bD | refine below_set ?_ GE261.out | refine below_set ?_ GE274.out | refine below_set ?_ GE278.out | refine below_set ?_ GE286.out) | exact HB.out)); (case side2 => exact Kd.R_tight rfl HO_9.out); rintro e w92 ⟨rfl, hy0, hb, hkp⟩; refine ⟨_, rfl, ?_⟩; have n0_ := AM (Kd.R_reok rfl hy0 (fun k_ e_ => HO_9.out.1 k_ e_)); have n1_ := AM (Kd.R_mono (ok' := fun k_ => some k_ ≠ (.slice Ao38 t275.length co38 : Value).ownBlock ∧ some k_ ≠ (.slice Ao47 t282.length co47 : Value).ownBlock ∧ some k_ ≠ (.slice Ao82 t288.length co82 : Value).ownBlock) (Kd.R_keptB ((Kd.R_apart' HO_275000.out (Kd.R_typed HO_9.out) (by decide))) hkp (fun k_ hk_ hs_ => (hk_.2) hs_)) (fun k_ hk_ => ⟨hk_.1.1.1, hk_.1.1.2.1, hk_.1.1.2.2⟩)); have n2_ := AM (Kd.R_mono (ok' := fun k_ => some k_ ≠ (.slice Ao32 t270.length co32 : Value).ownBlock ∧ some k_ ≠ (.slice Ao47 t282.length co47 : Value).ownBlock ∧ some k_ ≠ (.slice Ao82 t288.length co82 : Value).ownBlock) (Kd.R_keptB ((Kd.R_apart' HO_279000.out (Kd.R_typed HO_9.out) (by decide))) hkp (fun k_ hk_ hs_ => (hk_.2) hs_)) (fun k_ hk_ => ⟨hk_.1.1.1.1, hk_.1.1.1.2, hk_.1.1.2⟩)); have n3_ := AM (Kd.R_mono (ok' := fun k_ => some k_ ≠ (.slice Ao32 t270.length co32 : Value).ownBlock ∧ some k_ ≠ (.slice Ao38 t275.length co38 : Value).ownBlock ∧ some k_ ≠ (.slice Ao82 t288.length co82 : Value).ownBlock) (Kd.R_keptB ((Kd.R_apart' HO_287000.out (Kd.R_typed HO_9.out) (by decide))) hkp (fun k_ hk_ hs_ => (hk_.2) hs_)) (fun k_ hk_ => ⟨hk_.1.1.1, hk_.1.1.2.1, hk_.1.1.2.2⟩)); have n4_ := AM (blk_kept (bk BK261) hkp (fun hs_ => (fun e_ => (Kd.R_ne HO_9.out BK261.out (by decide)) e_) hs_)); have n5_ := AM (blk_kept (bk BK274) hkp (fun hs_ => (fun e_ => (Kd.R_ne HO_9.out BK274.out (by decide)) e_) hs_)); have n6_ := AM (blk_kept (bk BK278) hkp (fun hs_ => (fun e_ => (Kd.R_ne HO_9.out BK278.out (by decide)) e_) hs_)); have n7_ := AM (blk_kept (bk BK286) hkp (fun hs_ => (fun e_ => (Kd.R_ne HO_9.out BK286.out (by decide)) e_) hs_)); have n8_ := AM (Kd.R_mono (ok' := fun k_ => some k_ ≠ (.slice Ao32 t270.length co32 : Value).ownBlock ∧ some k_ ≠ (.slice Ao38 t275.length co38 : Value).ownBlock ∧ some k_ ≠ (.slice Ao47 t282.length co47 : Value).ownBlock) (Kd.R_keptB ((Kd.R_apart' HO290.out (Kd.R_typed HO_9.out) (by decide))) hkp (fun k_ hk_ hs_ => (hk_.2) hs_)) (fun k_ hk_ => ⟨hk_.1.1.1, hk_.1.1.2.1, hk_.1.1.2.2⟩)); have n9_ := AM (Kd.R_mono (ok' := fun k_ => some k_ ≠ (.slice Ao44 t279.length co44 : Value).ownBlock) (Kd.R_keptB (HO294.out) hkp (fun k_ hk_ hs_ => (hk_) hs_)) (fun k_ hk_ => hk_.1)); have n10_ := AM (hb); clear HO_9; clear HO_275000; clear HO_279000; clear HO_287000; clear BK261; clear BK274; clear BK278; clear BK286; clear HO290; clear HO294; clear HB; have HO_9 := n0_; have HO_275000 := n1_; have HO_279000 := n2_; have HO_287000 := n3_; have BK261 := n4_; have BK274 := n5_; have BK278 := n6_; have BK286 := n7_; have HO290 := n8_; have HO294 := n9_; have HB := n10_; clear n0_ n1_ n2_ n3_ n4_ n5_ n6_ n7_ n8_ n9_ n10_; (try clear hb); (try clear hkp); (try clear hy0)))
     (try simp only [Act.put, qT, q0, qS])
     go_cut [82] (fun v82 wc => ∃ (kq : Nat) (x82_78 : Bool), v82 = .bool x82_78 ∧ Aside0 (laws_FnExactDoActs.j1 kq l1 t273 x82_78 l0_0 t270 t282 = some r) ∧ Aside0 (kq ≤ kj19) ∧ Aside0 (Kd.R k67 67 wc w.heap.size (fun k_ => some k_ ≠ ((.slice Ao38 t275.length co38) : Value).ownBlock ∧ some k_ ≠ ((.slice Ao47 t282.length co47) : Value).ownBlock) (.slice Ao32 t270.length co32) t270) ∧ Aside0 (Kd.R k67 67 wc w.heap.size (fun k_ => some k_ ≠ ((.slice Ao32 t270.length co32) : Value).ownBlock ∧ some k_ ≠ ((.slice Ao47 t282.length co47) : Value).ownBlock) (.slice Ao38 t275.length co38) t297) ∧ Aside0 (Kd.R k67 67 wc w.heap.size (fun k_ => some k_ ≠ ((.slice Ao32 t270.length co32) : Value).ownBlock ∧ some k_ ≠ ((.slice Ao38 t275.length co38) : Value).ownBlock) (.slice Ao47 t282.length co47) t282) ∧ Aside0 (wc.heap[gb261]? = some (.cells #[(.slice A0_0 l0_0.length c0_0)] 24 (0, 0))) ∧ Aside0 (wc.heap[gb274]? = some (.cells #[(.slice Ao32 t270.length co32)] 30 (0, 0))) ∧ Aside0 (wc.heap[gb278]? = some (.cells #[(.slice Ao38 t275.length co38)] 30 (0, 0))) ∧ Aside0 (wc.heap[gb286]? = some (.cells #[(.slice Ao47 t282.length co47)] 30 (0, 0))) ∧ Aside0 (Below w.heap.size w wc))
     case first =>
      have H := HC79.out
      clear HC79
      by_cases c93 : t298 < 0
      ·rw [if_pos c93] at H
       have c93b0 : decide (t298 < 0) = true := decide_eq_true c93
       clear c93
       (first | rw [c93b0] | (simp only [i64_w, i32_w]; rw [c93b0]) | rw [c93b1] | skip)
       have H' := AM H
       clear H
       go_wp2
       go_meet
       case rel => exact ⟨_, (true), (by first | rfl | (simp; done) | (simp [*]; done)), H', ⟨by have := HJ19.out; first | omega | exact Nat.le_refl _⟩, ⟨by exact Kd.R_mono HO_275000.out (fun _ hk => ⟨hk.1, hk.2.1⟩)⟩, ⟨by exact Kd.R_mono HO_279000.out (fun _ hk => ⟨hk.1, hk.2.1⟩)⟩, ⟨by exact Kd.R_mono HO_287000.out (fun _ hk => ⟨hk.1, hk.2.1⟩)⟩, ⟨bk BK261⟩, ⟨bk BK274⟩, ⟨bk BK278⟩, ⟨bk BK286⟩, ⟨hS⟩⟩
      rw [if_neg c93] at H
      have c93b0 : decide (t298 < 0) = false := decide_eq_false c93
      clear c93
      (first | rw [c93b0] | (simp only [i64_w, i32_w]; rw [c93b0]) | rw [c93b1] | skip)
      replace H := bm H
      obtain ⟨t300, A940, H⟩ := H
      replace H : (if t300 = true then (laws_FnExactDoActs.j1 kj19 l1 t273 (t285 != t273) l0_0 t270 t282) else (laws_FnExactDoActs.j1 kj19 l1 t273 true l0_0 t270 t282)) = some r := H
      have A94 := AM A940
      clear A940
      by_cases c95 : t300 = true
      ·subst c95
       have H1 : (laws_FnExactDoActs.j1 kj19 l1 t273 (t285 != t273) l0_0 t270 t282) = some r := by rw [if_pos rfl] at H; exact H
       clear H
       have H := H1
       clear H1
       have H' := AM H
       clear H
       have hnb96 := NB286_261.out
       have hnc96 := NB261_286.out
       have hnb97 := NB286_274.out
       have hnc97 := NB274_286.out
       have hnb98 := NB286_278.out
       have hnc98 := NB278_286.out
       have hcz99_0 : w92.cell? ⟨gb286, 0, none⟩ = some (.slice Ao47 t282.length co47) := bc BK286 0
       have hfz99_0 := blk_frozen BK286.out 0
       have hnb100 := NB274_261.out
       have hnc100 := NB261_274.out
       have hnb101 := NB274_278.out
       have hnc101 := NB278_274.out
       have hcz102_0 : w92.cell? ⟨gb274, 0, none⟩ = some (.slice Ao32 t270.length co32) := bc BK274 0
       have hfz102_0 := blk_frozen BK274.out 0
       go_wp2_with (first | (go_at_call 13; (with_reducible refine (laws_eqDisk.calls kj19 _ _ t282 _ _ t270 true _ ?side1 ?side2 ?side3 ?side4 A94.out).mono ?_); (case side1 => repeat (first | exact (Kd.R_reads' HO_287000.out).2.2 | (with_reducible refine Kd.C_alloc ?_ _) | (with_reducible refine Kd.C_drewN ?_ _) | (with_reducible refine Kd.C_drew ?_))); (case side2 => exact (Kd.R_reads' HO_287000.out).2.1); (case side3 => repeat (first | exact (Kd.R_reads' HO_275000.out).2.2 | (with_reducible refine Kd.C_alloc ?_ _) | (with_reducible refine Kd.C_drewN ?_ _) | (with_reducible refine Kd.C_drew ?_))); (case side4 => exact (Kd.R_reads' HO_275000.out).2.1); rintro e w103 ⟨rfl, hb⟩; have n0_ := AM (Kd.R_below (by exact HO_9.out) hb); have n1_ := AM (Kd.R_below (by exact HO_275000.out) hb); have n2_ := AM (Kd.R_below (by exact HO_279000.out) hb); have n3_ := AM (Kd.R_below (by exact HO_287000.out) hb); have n4_ := AM (Kd.R_below (by exact HO290.out) hb); have n5_ := AM (Kd.R_below (by exact HO294.out) hb); have n6_ := AM (blk_below (bk BK261) hb); have n7_ := AM (blk_below (bk BK274) hb); have n8_ := AM (blk_below (bk BK278) hb); have n9_ := AM (blk_below (bk BK286) hb); have n10_ := AM (below_step (hS) hb); clear HO_9; clear HO_275000; clear HO_279000; clear HO_287000; clear HO290; clear HO294; clear BK261; clear BK274; clear BK278; clear BK286; clear HB; have HO_9 := n0_; have HO_275000 := n1_; have HO_279000 := n2_; have HO_287000 := n3_; have HO290 := n4_; have HO294 := n5_; have BK261 := n6_; have BK274 := n7_; have BK278 := n8_; have BK286 := n9_; have HB := n10_; clear n0_ n1_ n2_ n3_ n4_ n5_ n6_ n7_ n8_ n9_ n10_; (try clear hb); (try clear hk)))
       go_meet
       case rel => exact ⟨_, ((t285 != t273)), (by first | rfl | (simp; done) | (simp [*]; done)), H', ⟨by have := HJ19.out; first | omega | exact Nat.le_refl _⟩, ⟨by exact Kd.R_mono HO_275000.out (fun _ hk => ⟨hk.1, hk.2.1⟩)⟩, ⟨by exact Kd.R_mono HO_279000.out (fun _ hk => ⟨hk.1, hk.2.1⟩)⟩, ⟨by exact Kd.R_mono HO_287000.out (fun _ hk => ⟨hk.1, hk.2.1⟩)⟩, ⟨bk BK261⟩, ⟨bk BK274⟩, ⟨bk BK278⟩, ⟨bk BK286⟩, ⟨hS⟩⟩
      replace c95 := Bool.eq_false_iff.mpr c95
      subst c95
      have H1 : (laws_FnExactDoActs.j1 kj19 l1 t273 true l0_0 t270 t282) = some r := by rw [if_neg (show ¬ (false = true) by decide)] at H; exact H
      clear H
      have H := H1
      clear H1
      have H' := AM H
      clear H
      have hnb104 := NB286_261.out
      have hnc104 := NB261_286.out
      have hnb105 := NB286_274.out
      have hnc105 := NB274_286.out
      have hnb106 := NB286_278.out
      have hnc106 := NB278_286.out
      have hcz107_0 : w92.cell? ⟨gb286, 0, none⟩ = some (.slice Ao47 t282.length co47) := bc BK286 0
      have hfz107_0 := blk_frozen BK286.out 0
      have hnb108 := NB274_261.out
      have hnc108 := NB261_274.out
      have hnb109 := NB274_278.out
      have hnc109 := NB278_274.out
      have hcz110_0 : w92.cell? ⟨gb274, 0, none⟩ = some (.slice Ao32 t270.length co32) := bc BK274 0
      have hfz110_0 := blk_frozen BK274.out 0
      go_wp2_with (first | (go_at_call 13; (with_reducible refine (laws_eqDisk.calls kj19 _ _ t282 _ _ t270 false _ ?side1 ?side2 ?side3 ?side4 A94.out).mono ?_); (case side1 => repeat (first | exact (Kd.R_reads' HO_287000.out).2.2 | (with_reducible refine Kd.C_alloc ?_ _) | (with_reducible refine Kd.C_drewN ?_ _) | (with_reducible refine Kd.C_drew ?_))); (case side2 => exact (Kd.R_reads' HO_287000.out).2.1); (case side3 => repeat (first | exact (Kd.R_reads' HO_275000.out).2.2 | (with_reducible refine Kd.C_alloc ?_ _) | (with_reducible refine Kd.C_drewN ?_ _) | (with_reducible refine Kd.C_drew ?_))); (case side4 => exact (Kd.R_reads' HO_275000.out).2.1); rintro e w111 ⟨rfl, hb⟩; have n0_ := AM (Kd.R_below (by exact HO_9.out) hb); have n1_ := AM (Kd.R_below (by exact HO_275000.out) hb); have n2_ := AM (Kd.R_below (by exact HO_279000.out) hb); have n3_ := AM (Kd.R_below (by exact HO_287000.out) hb); have n4_ := AM (Kd.R_below (by exact HO290.out) hb); have n5_ := AM (Kd.R_below (by exact HO294.out) hb); have n6_ := AM (blk_below (bk BK261) hb); have n7_ := AM (blk_below (bk BK274) hb); have n8_ := AM (blk_below (bk BK278) hb); have n9_ := AM (blk_below (bk BK286) hb); have n10_ := AM (below_step (hS) hb); clear HO_9; clear HO_275000; clear HO_279000; clear HO_287000; clear HO290; clear HO294; clear BK261; clear BK274; clear BK278; clear BK286; clear HB; have HO_9 := n0_; have HO_275000 := n1_; have HO_279000 := n2_; have HO_287000 := n3_; have HO290 := n4_; have HO294 := n5_; have BK261 := n6_; have BK274 := n7_; have BK278 := n8_; have BK286 := n9_; have HB := n10_; clear n0_ n1_ n2_ n3_ n4_ n5_ n6_ n7_ n8_ n9_ n10_; (try clear hb); (try clear hk)))
      go_meet
      case rel => exact ⟨_, (true), (by first | rfl | (simp; done) | (simp [*]; done)), H', ⟨by have := HJ19.out; first | omega | exact Nat.le_refl _⟩, ⟨by exact Kd.R_mono HO_275000.out (fun _ hk => ⟨hk.1, hk.2.1⟩)⟩, ⟨by exact Kd.R_mono HO_279000.out (fun _ hk => ⟨hk.1, hk.2.1⟩)⟩, ⟨by exact Kd.R_mono HO_287000.out (fun _ hk => ⟨hk.1, hk.2.1⟩)⟩, ⟨bk BK261⟩, ⟨bk BK274⟩, ⟨bk BK278⟩, ⟨bk BK286⟩, ⟨hS⟩⟩
     case rest =>
      clear HC79
      obtain ⟨kq, x82_78, rfl, HA, HJ78, HO_275000, HO_279000, HO_287000, BK261, BK274, BK278, BK286, HB⟩ := hcut
      have hl279000_78 := (Kd.R_reads' HO_279000.out).1
      rw [hl279000_78] at HO_279000
      (try simp only [hl279000_78])
      (try simp only [hl279000_78] at BK261)
      (try simp only [hl279000_78] at BK274)
      (try simp only [hl279000_78] at BK278)
      (try simp only [hl279000_78] at BK286)
      (try simp only [hl279000_78] at HO_275000)
      (try simp only [hl279000_78] at HO_287000)
      cases kq with
      | zero => exact absurd HA.out (by simp [laws_FnExactDoActs.j1])
      | succ kj78 =>
       have H := HA.out
       clear HA
       simp only [laws_FnExactDoActs.j1] at H
       by_cases c112 : x82_78 = true
       ·subst c112
        have H1 : (some false) = some r := by rw [if_pos rfl] at H; exact H
        clear H
        have H := H1
        clear H1
        exact absurd ((Option.some.inj H).trans hT.out) (by decide)
       replace c112 := Bool.eq_false_iff.mpr c112
       subst c112
       have H1 : ((laws_markDisk.f kj78 t282 1).bind fun bt301 => ((laws_heldDisk.f kj78 bt301.2 1).bind fun t303 => (if t303 < 0 then (some false) else (if t303 = bt301.1 then ((laws_toDisk.f kj78 l0_0).bind fun t304 => ((laws_toActS.f kj78 l1).bind fun t307 => ((impl_DoActs.f kj78 t304 t307).bind fun bt310 => ((laws_eqDisk.f kj78 bt310.1 t270).bind fun t315 => (if t315 = true then (laws_FnExactDoActs.j2 kj78 bt301.1 (bt310.2 != t273) bt301.2) else (laws_FnExactDoActs.j2 kj78 bt301.1 true bt301.2)))))) else (some false))))) = some r := by rw [if_neg (show ¬ (false = true) by decide)] at H; exact H
       clear H
       have H := H1
       clear H1
       replace H := bm H
       obtain ⟨⟨t301, t302⟩, A1130, H⟩ := H
       replace H : ((laws_heldDisk.f kj78 t302 1).bind fun t303 => (if t303 < 0 then (some false) else (if t303 = t301 then ((laws_toDisk.f kj78 l0_0).bind fun t304 => ((laws_toActS.f kj78 l1).bind fun t307 => ((impl_DoActs.f kj78 t304 t307).bind fun bt310 => ((laws_eqDisk.f kj78 bt310.1 t270).bind fun t315 => (if t315 = true then (laws_FnExactDoActs.j2 kj78 t301 (bt310.2 != t273) t302) else (laws_FnExactDoActs.j2 kj78 t301 true t302)))))) else (some false)))) = some r := H
       have A113 := AM A1130
       clear A1130
       replace H := bm H
       obtain ⟨t303, A1140, H⟩ := H
       replace H : (if t303 < 0 then (some false) else (if t303 = t301 then ((laws_toDisk.f kj78 l0_0).bind fun t304 => ((laws_toActS.f kj78 l1).bind fun t307 => ((impl_DoActs.f kj78 t304 t307).bind fun bt310 => ((laws_eqDisk.f kj78 bt310.1 t270).bind fun t315 => (if t315 = true then (laws_FnExactDoActs.j2 kj78 t301 (bt310.2 != t273) t302) else (laws_FnExactDoActs.j2 kj78 t301 true t302)))))) else (some false))) = some r := H
       have A114 := AM A1140
       clear A1140
       by_cases c115 : t303 < 0
       ·rw [if_pos c115] at H
        have c115b0 : decide (t303 < 0) = true := decide_eq_true c115
        clear c115
        exact absurd ((Option.some.inj H).trans hT.out) (by decide)
       rw [if_neg c115] at H
       have c115b0 : decide (t303 < 0) = false := decide_eq_false c115
       clear c115
       by_cases c116 : t303 = t301
       ·rw [if_pos c116] at H
        have c116b0 : (t303 == t301) = true := beq_iff_eq.mpr c116
        have c116b1 : (t303 != t301) = false := bne_eq_false_iff_eq.mpr c116
        clear c116
        replace H := bm H
        obtain ⟨t304, A1170, H⟩ := H
        replace H : ((laws_toActS.f kj78 l1).bind fun t307 => ((impl_DoActs.f kj78 t304 t307).bind fun bt310 => ((laws_eqDisk.f kj78 bt310.1 t270).bind fun t315 => (if t315 = true then (laws_FnExactDoActs.j2 kj78 t301 (bt310.2 != t273) t302) else (laws_FnExactDoActs.j2 kj78 t301 true t302))))) = some r := H
        have A117 := AM A1170
        clear A1170
        replace H := bm H
        obtain ⟨t307, A1180, H⟩ := H
        replace H : ((impl_DoActs.f kj78 t304 t307).bind fun bt310 => ((laws_eqDisk.f kj78 bt310.1 t270).bind fun t315 => (if t315 = true then (laws_FnExactDoActs.j2 kj78 t301 (bt310.2 != t273) t302) else (laws_FnExactDoActs.j2 kj78 t301 true t302)))) = some r := H
        have A118 := AM A1180
        clear A1180
        replace H := bm H
        obtain ⟨⟨t310, t313⟩, A1190, H⟩ := H
        replace H : ((laws_eqDisk.f kj78 t310 t270).bind fun t315 => (if t315 = true then (laws_FnExactDoActs.j2 kj78 t301 (t313 != t273) t302) else (laws_FnExactDoActs.j2 kj78 t301 true t302))) = some r := H
        have A119 := AM A1190
        clear A1190
        have HC120 := AM H
        clear H
        have hnb121 := NB286_261.out
        have hnc121 := NB261_286.out
        have hnb122 := NB286_274.out
        have hnc122 := NB274_286.out
        have hnb123 := NB286_278.out
        have hnc123 := NB278_286.out
        have hcz124_0 : wc.cell? ⟨gb286, 0, none⟩ = some (.slice Ao47 t282.length co47) := bc BK286 0
        have hfz124_0 := blk_frozen BK286.out 0
        go_upto_region 32 with (first | ((with_reducible refine gate_callee (f := 20) rfl ?_); refine goesL_ (some 85) rfl rfl Try.func20 (by kernel_rfl) rfl #[.agg #[.slice Ao47 t282.length co47], .int .i64 1] rfl am ?_; (with_reducible refine (laws_markDisk.calls kj78 (fun k_ => some k_ = (.slice Ao47 t282.length co47 : Value).ownBlock) (.slice Ao47 t282.length co47) t282 1 t301 t302 w _ ?side1 ?side2 A113.out).mono ?_); (case side1 => repeat (first | (with_reducible first | exact HB.out | apply bA | apply bN | apply bD | refine below_set ?_ GE261.out | refine below_set ?_ GE274.out | refine below_set ?_ GE278.out | refine below_set ?_ GE286.out) | exact HB.out)); (case side2 => exact Kd.R_tight rfl HO_287000.out); rintro e w125 ⟨rfl, hy0, hb, hkp⟩; refine ⟨_, rfl, ?_⟩; have n0_ := AM (Kd.R_mono (ok' := fun k_ => some k_ ≠ (.slice Ao38 t297.length co38 : Value).ownBlock ∧ some k_ ≠ (.slice Ao47 t282.length co47 : Value).ownBlock) (Kd.R_keptB (HO_275000.out) hkp (fun k_ hk_ hs_ => (hk_.2) hs_)) (fun k_ hk_ => ⟨hk_.1.1, hk_.1.2⟩)); have n1_ := AM (Kd.R_mono (ok' := fun k_ => some k_ ≠ (.slice Ao32 t270.length co32 : Value).ownBlock ∧ some k_ ≠ (.slice Ao47 t282.length co47 : Value).ownBlock) (Kd.R_keptB (HO_279000.out) hkp (fun k_ hk_ hs_ => (hk_.2) hs_)) (fun k_ hk_ => ⟨hk_.1.1, hk_.1.2⟩)); have n2_ := AM (Kd.R_reok rfl hy0 (fun k_ e_ => HO_287000.out.1 k_ e_)); have n3_ := AM (blk_kept (bk BK261) hkp (fun hs_ => (fun e_ => (Kd.R_ne HO_287000.out BK261.out (by decide)) e_) hs_)); have n4_ := AM (blk_kept (bk BK274) hkp (fun hs_ => (fun e_ => (Kd.R_ne HO_287000.out BK274.out (by decide)) e_) hs_)); have n5_ := AM (blk_kept (bk BK278) hkp (fun hs_ => (fun e_ => (Kd.R_ne HO_287000.out BK278.out (by decide)) e_) hs_)); have n6_ := AM (blk_kept (bk BK286) hkp (fun hs_ => (fun e_ => (Kd.R_ne HO_287000.out BK286.out (by decide)) e_) hs_)); have n7_ := AM (hb); clear HO_275000; clear HO_279000; clear HO_287000; clear BK261; clear BK274; clear BK278; clear BK286; clear HB; have HO_275000 := n0_; have HO_279000 := n1_; have HO_287000 := n2_; have BK261 := n3_; have BK274 := n4_; have BK278 := n5_; have BK286 := n6_; have HB := n7_; clear n0_ n1_ n2_ n3_ n4_ n5_ n6_ n7_; (try clear hb); (try clear hkp); (try clear hy0); have hcz126_0 : w125.cell? ⟨gb286, 0, none⟩ = some (.slice Ao47 t282.length co47) := bc BK286 0; have hfz126_0 := blk_frozen BK286.out 0) | ((with_reducible refine gate_callee (f := 21) rfl ?_); refine goesL_ (some 88) rfl rfl Try.func21 (by kernel_rfl) rfl #[.agg #[.slice Ao47 t302.length co47], .int .i64 1] rfl (by (try simp only [List.map_toArray, List.map_cons, List.map_nil]); first | done | (rw [show t302.length = t282.length from (Kd.R_reads' HO_287000.out).1.symm] <;> rfl) | rfl | (simp only [List.length_drop, List.length_take]; rfl)) ?_; (with_reducible refine (laws_heldDisk.calls kj78 _ _ t302 1 t303 _ ?side1 ?side2 A114.out).mono ?_); (case side1 => repeat (first | exact (Kd.R_reads' HO_287000.out).2.2 | (with_reducible refine Kd.C_alloc ?_ _) | (with_reducible refine Kd.C_drewN ?_ _) | (with_reducible refine Kd.C_drew ?_))); (case side2 => rw [show t302.length = t282.length from (Kd.R_reads' HO_287000.out).1.symm]; exact (Kd.R_reads' HO_287000.out).2.1); rintro e w127 ⟨rfl, hb⟩; refine ⟨_, rfl, ?_⟩; have n0_ := AM (Kd.R_below (by exact HO_275000.out) hb); have n1_ := AM (Kd.R_below (by exact HO_279000.out) hb); have n2_ := AM (Kd.R_below (by exact HO_287000.out) hb); have n3_ := AM (blk_below (bk BK261) hb); have n4_ := AM (blk_below (bk BK274) hb); have n5_ := AM (blk_below (bk BK278) hb); have n6_ := AM (blk_below (bk BK286) hb); have n7_ := AM (below_step (hS) hb); clear HO_275000; clear HO_279000; clear HO_287000; clear BK261; clear BK274; clear BK278; clear BK286; clear HB; have HO_275000 := n0_; have HO_279000 := n1_; have HO_287000 := n2_; have BK261 := n3_; have BK274 := n4_; have BK278 := n5_; have BK286 := n6_; have HB := n7_; clear n0_ n1_ n2_ n3_ n4_ n5_ n6_ n7_; (try clear hb); have hnb128 := NB261_274.out; have hnc128 := NB274_261.out; have hnb129 := NB261_278.out; have hnc129 := NB278_261.out; have hcz130_0 : w127.cell? ⟨gb261, 0, none⟩ = some (.slice A0_0 l0_0.length c0_0) := bc BK261 0; have hfz130_0 := blk_frozen BK261.out 0) | ((with_reducible refine gate_callee (f := 11) rfl ?_); refine goesL_ (some 96) rfl rfl Try.func11 (by kernel_rfl) rfl #[.agg #[.slice A0_0 l0_0.length c0_0]] rfl am ?_; (with_reducible refine (laws_toDisk.calls kj78 _ _ l0_0 t304 _ ?side1 ?side2 A117.out).mono ?_); (case side1 => repeat (first | exact (Kd.C_below HR0_0.out HB.out) | (with_reducible refine Kd.C_alloc ?_ _) | (with_reducible refine Kd.C_drewN ?_ _) | (with_reducible refine Kd.C_drew ?_))); (case side2 => exact HC0_0.out); rintro e w131 ⟨v305, rfl, ho0, hb⟩; refine ⟨_, rfl, ?_⟩; have n0_ := AM (Kd.R_elder' (by exact HO_275000.out) (Kd.R_base ho0) hb); have n1_ := AM (Kd.R_elder' (by exact HO_279000.out) (Kd.R_base ho0) hb); have n2_ := AM (Kd.R_elder' (by exact HO_287000.out) (Kd.R_base ho0) hb); have n3_ := AM (Kd.R_lower (Kd.R_new' (Kd.R_new' (Kd.R_new' ho0 (Kd.R_lt (by exact HO_275000.out))) (Kd.R_lt (by exact HO_279000.out))) (Kd.R_lt (by exact HO_287000.out))) (below_size (hS))); have n4_ := AM (blk_below (bk BK261) hb); have n5_ := AM (blk_below (bk BK274) hb); have n6_ := AM (blk_below (bk BK278) hb); have n7_ := AM (blk_below (bk BK286) hb); have n8_ := AM (below_step (hS) hb); clear HO_275000; clear HO_279000; clear HO_287000; clear BK261; clear BK274; clear BK278; clear BK286; clear HB; have HO_275000 := n0_; have HO_279000 := n1_; have HO_287000 := n2_; have HO306 := n3_; have BK261 := n4_; have BK274 := n5_; have BK278 := n6_; have BK286 := n7_; have HB := n8_; clear n0_ n1_ n2_ n3_ n4_ n5_ n6_ n7_ n8_; (try clear hb); (try clear ho0)) | ((with_reducible refine gate_callee (f := 24) rfl ?_); refine goesL_ (some 98) rfl rfl Try.func24 (by kernel_rfl) rfl #[.slice A1 l1.length c1] rfl am ?_; (with_reducible refine (laws_toActS.calls kj78 _ _ l1 t307 _ ?side1 ?side2 A118.out).mono ?_); (case side1 => repeat (first | exact (Kd.C_below HR1.out HB.out) | (with_reducible refine Kd.C_alloc ?_ _) | (with_reducible refine Kd.C_drewN ?_ _) | (with_reducible refine Kd.C_drew ?_))); (case side2 => exact HC1.out); rintro e w132 ⟨v308, rfl, ho0, hb⟩; refine ⟨_, rfl, ?_⟩; have n0_ := AM (Kd.R_below (by exact HO_275000.out) hb); have n1_ := AM (Kd.R_below (by exact HO_279000.out) hb); have n2_ := AM (Kd.R_below (by exact HO_287000.out) hb); have n3_ := AM (Kd.R_below (by exact HO306.out) hb); have n4_ := AM (Kd.R_lower ho0 (below_size (hS))); have n5_ := AM (blk_below (bk BK261) hb); have n6_ := AM (blk_below (bk BK274) hb); have n7_ := AM (blk_below (bk BK278) hb); have n8_ := AM (blk_below (bk BK286) hb); have n9_ := AM (below_step (hS) hb); clear HO_275000; clear HO_279000; clear HO_287000; clear HO306; clear BK261; clear BK274; clear BK278; clear BK286; clear HB; have HO_275000 := n0_; have HO_279000 := n1_; have HO_287000 := n2_; have HO306 := n3_; have HO309 := n4_; have BK261 := n5_; have BK274 := n6_; have BK278 := n7_; have BK286 := n8_; have HB := n9_; clear n0_ n1_ n2_ n3_ n4_ n5_ n6_ n7_ n8_ n9_; (try clear hb); (try clear ho0); obtain ⟨Ao133, co133, eo133⟩ := Kd.R_slice HO306.out; subst eo133; obtain ⟨Ao134, co134, eo134⟩ := Kd.R_slice HO309.out; subst eo134) | ((with_reducible refine gate_callee (f := 25) rfl ?_); refine goesL_ (some 99) rfl rfl Try.func25 (by kernel_rfl) rfl #[.agg #[.slice Ao133 t304.length co133], .slice Ao134 t307.length co134] rfl am ?_; (with_reducible refine (impl_DoActs.calls kj78 _ _ t304 _ _ t307 t310 t313 _ ?side1 ?side2 ?side3 ?side4 A119.out).mono ?_); (case side1 => repeat (first | exact (Kd.R_reads' HO306.out).2.2 | (with_reducible refine Kd.C_alloc ?_ _) | (with_reducible refine Kd.C_drewN ?_ _) | (with_reducible refine Kd.C_drew ?_))); (case side2 => exact (Kd.R_reads' HO306.out).2.1); (case side3 => repeat (first | exact (Kd.R_reads' HO309.out).2.2 | (with_reducible refine Kd.C_alloc ?_ _) | (with_reducible refine Kd.C_drewN ?_ _) | (with_reducible refine Kd.C_drew ?_))); (case side4 => exact (Kd.R_reads' HO309.out).2.1); rintro e w135 ⟨v311, rfl, ho0, hb⟩; refine ⟨_, rfl, ?_⟩; have n0_ := AM (Kd.R_elder' (by exact HO_275000.out) (Kd.R_base ho0) hb); have n1_ := AM (Kd.R_elder' (by exact HO_279000.out) (Kd.R_base ho0) hb); have n2_ := AM (Kd.R_elder' (by exact HO_287000.out) (Kd.R_base ho0) hb); have n3_ := AM (Kd.R_elder' (by exact HO306.out) (Kd.R_base ho0) hb); have n4_ := AM (Kd.R_below (by exact HO309.out) hb); have n5_ := AM (Kd.R_lower (Kd.R_new' (Kd.R_new' (Kd.R_new' (Kd.R_new' ho0 (Kd.R_lt (by exact HO_275000.out))) (Kd.R_lt (by exact HO_279000.out))) (Kd.R_lt (by exact HO_287000.out))) (Kd.R_lt (by exact HO306.out))) (below_size (hS))); have n6_ := AM (blk_below (bk BK261) hb); have n7_ := AM (blk_below (bk BK274) hb); have n8_ := AM (blk_below (bk BK278) hb); have n9_ := AM (blk_below (bk BK286) hb); have n10_ := AM (below_step (hS) hb); clear HO_275000; clear HO_279000; clear HO_287000; clear HO306; clear HO309; clear BK261; clear BK274; clear BK278; clear BK286; clear HB; have HO_275000 := n0_; have HO_279000 := n1_; have HO_287000 := n2_; have HO306 := n3_; have HO309 := n4_; have HO312 := n5_; have BK261 := n6_; have BK274 := n7_; have BK278 := n8_; have BK286 := n9_; have HB := n10_; clear n0_ n1_ n2_ n3_ n4_ n5_ n6_ n7_ n8_ n9_ n10_; (try clear hb); (try clear ho0)) | ((with_reducible refine gate_dst (N := 15) rfl ?_); refine bx (N := 15) (cs := #[.slice none 0 0]) (t := 30) ?_; intro gb314 hg w136 hbox hb; have n0_ := AM (Kd.R_below (by exact HO_275000.out) hb); have n1_ := AM (Kd.R_below (by exact HO_279000.out) hb); have n2_ := AM (Kd.R_below (by exact HO_287000.out) hb); have n3_ := AM (Kd.R_below (by exact HO306.out) hb); have n4_ := AM (Kd.R_below (by exact HO309.out) hb); have n5_ := AM (Kd.R_below (by exact HO312.out) hb); have n6_ := AM (blk_below (bk BK261) hb); have n7_ := AM (blk_below (bk BK274) hb); have n8_ := AM (blk_below (bk BK278) hb); have n9_ := AM (blk_below (bk BK286) hb); have n10_ := AM (below_step (hS) hb); have n11_ := AM (hbox); have n12_ := AM (bt hg hS); have n13_ := AM (bt hg hS); have n14_ := AM (nl hg (bk BK261)); have n15_ := AM (ng hg (bk BK261)); have n16_ := AM (nl hg (bk BK274)); have n17_ := AM (ng hg (bk BK274)); have n18_ := AM (nl hg (bk BK278)); have n19_ := AM (ng hg (bk BK278)); have n20_ := AM (nl hg (bk BK286)); have n21_ := AM (ng hg (bk BK286)); clear HO_275000; clear HO_279000; clear HO_287000; clear HO306; clear HO309; clear HO312; clear BK261; clear BK274; clear BK278; clear BK286; clear HB; have HO_275000 := n0_; have HO_279000 := n1_; have HO_287000 := n2_; have HO306 := n3_; have HO309 := n4_; have HO312 := n5_; have BK261 := n6_; have BK274 := n7_; have BK278 := n8_; have BK286 := n9_; have HB := n10_; have BK314 := n11_; have GW314 := n12_; have GE314 := n13_; have NB261_314 := n14_; have NB314_261 := n15_; have NB274_314 := n16_; have NB314_274 := n17_; have NB278_314 := n18_; have NB314_278 := n19_; have NB286_314 := n20_; have NB314_286 := n21_; clear n0_ n1_ n2_ n3_ n4_ n5_ n6_ n7_ n8_ n9_ n10_ n11_ n12_ n13_ n14_ n15_ n16_ n17_ n18_ n19_ n20_ n21_; clear hb hbox hg; obtain ⟨Ao137, co137, eo137⟩ := Kd.R_slice HO312.out; subst eo137; have hnb138 := NB314_261.out; have hnc138 := NB261_314.out; have hnb139 := NB314_274.out; have hnc139 := NB274_314.out; have hnb140 := NB314_278.out; have hnc140 := NB278_314.out; have hnb141 := NB314_286.out; have hnc141 := NB286_314.out; have hcz142_0 : w136.cell? ⟨gb314, 0, none⟩ = some (.slice none 0 0) := bc BK314 0; have hfz142_0 := blk_frozen BK314.out 0))
        (try simp only [Act.put, qT, q0, qS])
        go_cut [110] (fun v110 wc => ∃ (kq : Nat) (x110_119 : Bool), v110 = .bool x110_119 ∧ Aside0 (laws_FnExactDoActs.j2 kq t301 x110_119 t302 = some r) ∧ Aside0 (kq ≤ kj78) ∧ Aside0 (Kd.R k67 67 wc w.heap.size (fun k_ => some k_ ≠ ((.slice Ao38 t297.length co38) : Value).ownBlock ∧ some k_ ≠ ((.slice Ao47 t282.length co47) : Value).ownBlock ∧ some k_ ≠ ((.slice Ao137 t310.length co137) : Value).ownBlock) (.slice Ao32 t270.length co32) t270) ∧ Aside0 (Kd.R k67 67 wc w.heap.size (fun k_ => some k_ ≠ ((.slice Ao32 t270.length co32) : Value).ownBlock ∧ some k_ ≠ ((.slice Ao47 t282.length co47) : Value).ownBlock ∧ some k_ ≠ ((.slice Ao137 t310.length co137) : Value).ownBlock) (.slice Ao38 t297.length co38) t297) ∧ Aside0 (Kd.R k67 67 wc w.heap.size (fun k_ => some k_ ≠ ((.slice Ao32 t270.length co32) : Value).ownBlock ∧ some k_ ≠ ((.slice Ao38 t297.length co38) : Value).ownBlock ∧ some k_ ≠ ((.slice Ao137 t310.length co137) : Value).ownBlock) (.slice Ao47 t282.length co47) t302) ∧ Aside0 (Kd.R k67 67 wc w.heap.size (fun k_ => some k_ ≠ ((.slice Ao32 t270.length co32) : Value).ownBlock ∧ some k_ ≠ ((.slice Ao38 t297.length co38) : Value).ownBlock ∧ some k_ ≠ ((.slice Ao47 t282.length co47) : Value).ownBlock) (.slice Ao137 t310.length co137) t310) ∧ Aside0 (wc.heap[gb261]? = some (.cells #[(.slice A0_0 l0_0.length c0_0)] 24 (0, 0))) ∧ Aside0 (wc.heap[gb274]? = some (.cells #[(.slice Ao32 t270.length co32)] 30 (0, 0))) ∧ Aside0 (wc.heap[gb278]? = some (.cells #[(.slice Ao38 t297.length co38)] 30 (0, 0))) ∧ Aside0 (wc.heap[gb286]? = some (.cells #[(.slice Ao47 t282.length co47)] 30 (0, 0))) ∧ Aside0 (wc.heap[gb314]? = some (.cells #[(.slice Ao137 t310.length co137)] 30 (0, 0))) ∧ Aside0 (Below w.heap.size w wc))
        case first =>
         have H := HC120.out
         clear HC120
         replace H := bm H
         obtain ⟨t315, A1430, H⟩ := H
         replace H : (if t315 = true then (laws_FnExactDoActs.j2 kj78 t301 (t313 != t273) t302) else (laws_FnExactDoActs.j2 kj78 t301 true t302)) = some r := H
         have A143 := AM A1430
         clear A1430
         by_cases c144 : t315 = true
         ·subst c144
          have H1 : (laws_FnExactDoActs.j2 kj78 t301 (t313 != t273) t302) = some r := by rw [if_pos rfl] at H; exact H
          clear H
          have H := H1
          clear H1
          have H' := AM H
          clear H
          have hnb145 := NB314_261.out
          have hnc145 := NB261_314.out
          have hnb146 := NB314_274.out
          have hnc146 := NB274_314.out
          have hnb147 := NB314_278.out
          have hnc147 := NB278_314.out
          have hnb148 := NB314_286.out
          have hnc148 := NB286_314.out
          have hcz149_0 : w136.cell? ⟨gb314, 0, none⟩ = some (.slice none 0 0) := bc BK314 0
          have hfz149_0 := blk_frozen BK314.out 0
          have hnb150 := NB274_261.out
          have hnc150 := NB261_274.out
          have hnb151 := NB274_278.out
          have hnc151 := NB278_274.out
          have hnb152 := NB274_286.out
          have hnc152 := NB286_274.out
          have hcz153_0 : w136.cell? ⟨gb274, 0, none⟩ = some (.slice Ao32 t270.length co32) := bc BK274 0
          have hfz153_0 := blk_frozen BK274.out 0
          go_wp2_with (first | ((with_reducible refine gate_callee (f := 13) rfl ?_); refine goesL_ (some 104) rfl rfl Try.func13 (by kernel_rfl) rfl #[.agg #[.slice Ao137 t310.length co137], .agg #[.slice Ao32 t270.length co32]] rfl am ?_; (with_reducible refine (laws_eqDisk.calls kj78 _ _ t310 _ _ t270 true _ ?side1 ?side2 ?side3 ?side4 A143.out).mono ?_); (case side1 => refine (Kd.R_reads' (e := 67) (base := w.heap.size) (ok := fun k_ => ((((True ∧ some k_ ≠ (.slice Ao32 t270.length co32 : Value).ownBlock) ∧ some k_ ≠ (.slice Ao38 t297.length co38 : Value).ownBlock) ∧ some k_ ≠ (.slice Ao47 t282.length co47 : Value).ownBlock) ∧ some k_ ≠ (.slice Ao133 t304.length co133 : Value).ownBlock)) (n := t310.length) (c := co137) ?_).2.2; exact (by exact (Kd.R_mono (Kd.R_far (p := ⟨gb314, 0, none⟩) (Kd.R_types HO312.out BK314.out (by decide)) (fun _ hk => hk.2) (.slice Ao137 t310.length co137)) (fun _ h_ => h_.1)))); (case side2 => exact (Kd.R_reads' HO312.out).2.1); (case side3 => refine (Kd.R_reads' (e := 67) (base := w.heap.size) (ok := fun k_ => (((some k_ ≠ (.slice Ao38 t297.length co38 : Value).ownBlock ∧ some k_ ≠ (.slice Ao47 t282.length co47 : Value).ownBlock) ∧ some k_ ≠ (.slice Ao133 t304.length co133 : Value).ownBlock) ∧ some k_ ≠ (.slice Ao137 t310.length co137 : Value).ownBlock)) (n := t270.length) (c := co32) ?_).2.2; exact (by exact (Kd.R_mono (Kd.R_far (p := ⟨gb314, 0, none⟩) (Kd.R_types HO_275000.out BK314.out (by decide)) (fun _ hk => hk.2) (.slice Ao137 t310.length co137)) (fun _ h_ => h_.1)))); (case side4 => exact (Kd.R_reads' HO_275000.out).2.1); rintro e w154 ⟨rfl, hb⟩; refine ⟨_, rfl, ?_⟩; have n0_ := AM (Kd.R_below (by exact (Kd.R_mono (Kd.R_far (p := ⟨gb314, 0, none⟩) (Kd.R_types HO_275000.out BK314.out (by decide)) (fun _ hk => hk.2) (.slice Ao137 t310.length co137)) (fun _ h_ => h_.1))) hb); have n1_ := AM (Kd.R_below (by exact (Kd.R_mono (Kd.R_far (p := ⟨gb314, 0, none⟩) (Kd.R_types HO_279000.out BK314.out (by decide)) (fun _ hk => hk.2) (.slice Ao137 t310.length co137)) (fun _ h_ => h_.1))) hb); have n2_ := AM (Kd.R_below (by exact (Kd.R_mono (Kd.R_far (p := ⟨gb314, 0, none⟩) (Kd.R_types HO_287000.out BK314.out (by decide)) (fun _ hk => hk.2) (.slice Ao137 t310.length co137)) (fun _ h_ => h_.1))) hb); have n3_ := AM (Kd.R_below (by exact (Kd.R_mono (Kd.R_far (p := ⟨gb314, 0, none⟩) (Kd.R_types HO306.out BK314.out (by decide)) (fun _ hk => hk.2) (.slice Ao137 t310.length co137)) (fun _ h_ => h_.1))) hb); have n4_ := AM (Kd.R_below (by exact (Kd.R_mono (Kd.R_far (p := ⟨gb314, 0, none⟩) (Kd.R_types HO309.out BK314.out (by decide)) (fun _ hk => hk.2) (.slice Ao137 t310.length co137)) (fun _ h_ => h_.1))) hb); have n5_ := AM (Kd.R_below (by exact (Kd.R_mono (Kd.R_far (p := ⟨gb314, 0, none⟩) (Kd.R_types HO312.out BK314.out (by decide)) (fun _ hk => hk.2) (.slice Ao137 t310.length co137)) (fun _ h_ => h_.1))) hb); have n6_ := AM (blk_below (g := gb261) (o := .cells #[.slice A0_0 l0_0.length c0_0] 24 (0, 0)) (be) hb); have n7_ := AM (blk_below (g := gb274) (o := .cells #[.slice Ao32 t270.length co32] 30 (0, 0)) (be) hb); have n8_ := AM (blk_below (g := gb278) (o := .cells #[.slice Ao38 t297.length co38] 30 (0, 0)) (be) hb); have n9_ := AM (blk_below (g := gb286) (o := .cells #[.slice Ao47 t282.length co47] 30 (0, 0)) (be) hb); have n10_ := AM (blk_below (g := gb314) (o := .cells #[.slice Ao137 t310.length co137] 30 (0, 0)) (by (with_reducible repeat first | apply aN | apply aD | apply aA); refine blk_put (cs := #[.slice none 0 0]) ?_ 0 _ rfl; exact bk BK314) hb); have n11_ := AM (below_step (hS) hb); clear HO_275000; clear HO_279000; clear HO_287000; clear HO306; clear HO309; clear HO312; clear BK261; clear BK274; clear BK278; clear BK286; clear BK314; clear HB; have HO_275000 := n0_; have HO_279000 := n1_; have HO_287000 := n2_; have HO306 := n3_; have HO309 := n4_; have HO312 := n5_; have BK261 := n6_; have BK274 := n7_; have BK278 := n8_; have BK286 := n9_; have BK314 := n10_; have HB := n11_; clear n0_ n1_ n2_ n3_ n4_ n5_ n6_ n7_ n8_ n9_ n10_ n11_; (try clear hb); (try clear hk)))
          go_meet
          case rel => exact ⟨_, ((t313 != t273)), (by first | rfl | (simp; done) | (simp [*]; done)), H', ⟨by have := HJ19.out; have := HJ78.out; first | omega | exact Nat.le_refl _⟩, ⟨by (try simp only [hl279000_78]); exact Kd.R_mono HO_275000.out (fun _ hk => ⟨hk.1.1.1, ⟨hk.1.1.2, hk.2⟩⟩)⟩, ⟨by (try simp only [hl279000_78]); exact Kd.R_mono HO_279000.out (fun _ hk => ⟨hk.1.1.1, ⟨hk.1.1.2, hk.2⟩⟩)⟩, ⟨by (try simp only [hl279000_78]); exact Kd.R_mono HO_287000.out (fun _ hk => ⟨hk.1.1.1, ⟨hk.1.1.2, hk.2⟩⟩)⟩, ⟨by (try simp only [hl279000_78]); exact Kd.R_mono HO312.out (fun _ hk => ⟨hk.1.1.1.2, ⟨hk.1.1.2, hk.1.2⟩⟩)⟩, ⟨by (try simp only [hl279000_78]); exact bk BK261⟩, ⟨by (try simp only [hl279000_78]); exact bk BK274⟩, ⟨by (try simp only [hl279000_78]); exact bk BK278⟩, ⟨by (try simp only [hl279000_78]); exact bk BK286⟩, ⟨by (try simp only [hl279000_78]); exact bk BK314⟩, ⟨hS⟩⟩
         replace c144 := Bool.eq_false_iff.mpr c144
         subst c144
         have H1 : (laws_FnExactDoActs.j2 kj78 t301 true t302) = some r := by rw [if_neg (show ¬ (false = true) by decide)] at H; exact H
         clear H
         have H := H1
         clear H1
         have H' := AM H
         clear H
         have hnb155 := NB314_261.out
         have hnc155 := NB261_314.out
         have hnb156 := NB314_274.out
         have hnc156 := NB274_314.out
         have hnb157 := NB314_278.out
         have hnc157 := NB278_314.out
         have hnb158 := NB314_286.out
         have hnc158 := NB286_314.out
         have hcz159_0 : w136.cell? ⟨gb314, 0, none⟩ = some (.slice none 0 0) := bc BK314 0
         have hfz159_0 := blk_frozen BK314.out 0
         have hnb160 := NB274_261.out
         have hnc160 := NB261_274.out
         have hnb161 := NB274_278.out
         have hnc161 := NB278_274.out
         have hnb162 := NB274_286.out
         have hnc162 := NB286_274.out
         have hcz163_0 : w136.cell? ⟨gb274, 0, none⟩ = some (.slice Ao32 t270.length co32) := bc BK274 0
         have hfz163_0 := blk_frozen BK274.out 0
         go_wp2_with (first | ((with_reducible refine gate_callee (f := 13) rfl ?_); refine goesL_ (some 104) rfl rfl Try.func13 (by kernel_rfl) rfl #[.agg #[.slice Ao137 t310.length co137], .agg #[.slice Ao32 t270.length co32]] rfl am ?_; (with_reducible refine (laws_eqDisk.calls kj78 _ _ t310 _ _ t270 false _ ?side1 ?side2 ?side3 ?side4 A143.out).mono ?_); (case side1 => refine (Kd.R_reads' (e := 67) (base := w.heap.size) (ok := fun k_ => ((((True ∧ some k_ ≠ (.slice Ao32 t270.length co32 : Value).ownBlock) ∧ some k_ ≠ (.slice Ao38 t297.length co38 : Value).ownBlock) ∧ some k_ ≠ (.slice Ao47 t282.length co47 : Value).ownBlock) ∧ some k_ ≠ (.slice Ao133 t304.length co133 : Value).ownBlock)) (n := t310.length) (c := co137) ?_).2.2; exact (by exact (Kd.R_mono (Kd.R_far (p := ⟨gb314, 0, none⟩) (Kd.R_types HO312.out BK314.out (by decide)) (fun _ hk => hk.2) (.slice Ao137 t310.length co137)) (fun _ h_ => h_.1)))); (case side2 => exact (Kd.R_reads' HO312.out).2.1); (case side3 => refine (Kd.R_reads' (e := 67) (base := w.heap.size) (ok := fun k_ => (((some k_ ≠ (.slice Ao38 t297.length co38 : Value).ownBlock ∧ some k_ ≠ (.slice Ao47 t282.length co47 : Value).ownBlock) ∧ some k_ ≠ (.slice Ao133 t304.length co133 : Value).ownBlock) ∧ some k_ ≠ (.slice Ao137 t310.length co137 : Value).ownBlock)) (n := t270.length) (c := co32) ?_).2.2; exact (by exact (Kd.R_mono (Kd.R_far (p := ⟨gb314, 0, none⟩) (Kd.R_types HO_275000.out BK314.out (by decide)) (fun _ hk => hk.2) (.slice Ao137 t310.length co137)) (fun _ h_ => h_.1)))); (case side4 => exact (Kd.R_reads' HO_275000.out).2.1); rintro e w164 ⟨rfl, hb⟩; refine ⟨_, rfl, ?_⟩; have n0_ := AM (Kd.R_below (by exact (Kd.R_mono (Kd.R_far (p := ⟨gb314, 0, none⟩) (Kd.R_types HO_275000.out BK314.out (by decide)) (fun _ hk => hk.2) (.slice Ao137 t310.length co137)) (fun _ h_ => h_.1))) hb); have n1_ := AM (Kd.R_below (by exact (Kd.R_mono (Kd.R_far (p := ⟨gb314, 0, none⟩) (Kd.R_types HO_279000.out BK314.out (by decide)) (fun _ hk => hk.2) (.slice Ao137 t310.length co137)) (fun _ h_ => h_.1))) hb); have n2_ := AM (Kd.R_below (by exact (Kd.R_mono (Kd.R_far (p := ⟨gb314, 0, none⟩) (Kd.R_types HO_287000.out BK314.out (by decide)) (fun _ hk => hk.2) (.slice Ao137 t310.length co137)) (fun _ h_ => h_.1))) hb); have n3_ := AM (Kd.R_below (by exact (Kd.R_mono (Kd.R_far (p := ⟨gb314, 0, none⟩) (Kd.R_types HO306.out BK314.out (by decide)) (fun _ hk => hk.2) (.slice Ao137 t310.length co137)) (fun _ h_ => h_.1))) hb); have n4_ := AM (Kd.R_below (by exact (Kd.R_mono (Kd.R_far (p := ⟨gb314, 0, none⟩) (Kd.R_types HO309.out BK314.out (by decide)) (fun _ hk => hk.2) (.slice Ao137 t310.length co137)) (fun _ h_ => h_.1))) hb); have n5_ := AM (Kd.R_below (by exact (Kd.R_mono (Kd.R_far (p := ⟨gb314, 0, none⟩) (Kd.R_types HO312.out BK314.out (by decide)) (fun _ hk => hk.2) (.slice Ao137 t310.length co137)) (fun _ h_ => h_.1))) hb); have n6_ := AM (blk_below (g := gb261) (o := .cells #[.slice A0_0 l0_0.length c0_0] 24 (0, 0)) (be) hb); have n7_ := AM (blk_below (g := gb274) (o := .cells #[.slice Ao32 t270.length co32] 30 (0, 0)) (be) hb); have n8_ := AM (blk_below (g := gb278) (o := .cells #[.slice Ao38 t297.length co38] 30 (0, 0)) (be) hb); have n9_ := AM (blk_below (g := gb286) (o := .cells #[.slice Ao47 t282.length co47] 30 (0, 0)) (be) hb); have n10_ := AM (blk_below (g := gb314) (o := .cells #[.slice Ao137 t310.length co137] 30 (0, 0)) (by (with_reducible repeat first | apply aN | apply aD | apply aA); refine blk_put (cs := #[.slice none 0 0]) ?_ 0 _ rfl; exact bk BK314) hb); have n11_ := AM (below_step (hS) hb); clear HO_275000; clear HO_279000; clear HO_287000; clear HO306; clear HO309; clear HO312; clear BK261; clear BK274; clear BK278; clear BK286; clear BK314; clear HB; have HO_275000 := n0_; have HO_279000 := n1_; have HO_287000 := n2_; have HO306 := n3_; have HO309 := n4_; have HO312 := n5_; have BK261 := n6_; have BK274 := n7_; have BK278 := n8_; have BK286 := n9_; have BK314 := n10_; have HB := n11_; clear n0_ n1_ n2_ n3_ n4_ n5_ n6_ n7_ n8_ n9_ n10_ n11_; (try clear hb); (try clear hk)))
         go_meet
         case rel => exact ⟨_, (true), (by first | rfl | (simp; done) | (simp [*]; done)), H', ⟨by have := HJ19.out; have := HJ78.out; first | omega | exact Nat.le_refl _⟩, ⟨by (try simp only [hl279000_78]); exact Kd.R_mono HO_275000.out (fun _ hk => ⟨hk.1.1.1, ⟨hk.1.1.2, hk.2⟩⟩)⟩, ⟨by (try simp only [hl279000_78]); exact Kd.R_mono HO_279000.out (fun _ hk => ⟨hk.1.1.1, ⟨hk.1.1.2, hk.2⟩⟩)⟩, ⟨by (try simp only [hl279000_78]); exact Kd.R_mono HO_287000.out (fun _ hk => ⟨hk.1.1.1, ⟨hk.1.1.2, hk.2⟩⟩)⟩, ⟨by (try simp only [hl279000_78]); exact Kd.R_mono HO312.out (fun _ hk => ⟨hk.1.1.1.2, ⟨hk.1.1.2, hk.1.2⟩⟩)⟩, ⟨by (try simp only [hl279000_78]); exact bk BK261⟩, ⟨by (try simp only [hl279000_78]); exact bk BK274⟩, ⟨by (try simp only [hl279000_78]); exact bk BK278⟩, ⟨by (try simp only [hl279000_78]); exact bk BK286⟩, ⟨by (try simp only [hl279000_78]); exact bk BK314⟩, ⟨hS⟩⟩
        case rest =>
         clear HC120
         obtain ⟨kq, x110_119, rfl, HA, HJ119, HO_275000, HO_279000, HO_287000, HO_315000, BK261, BK274, BK278, BK286, BK314, HB⟩ := hcut
         have hl287000_119 := (Kd.R_reads' HO_287000.out).1
         rw [hl287000_119] at HO_287000
         (try simp only [hl287000_119])
         (try simp only [hl287000_119] at BK261)
         (try simp only [hl287000_119] at BK274)
         (try simp only [hl287000_119] at BK278)
         (try simp only [hl287000_119] at BK286)
         (try simp only [hl287000_119] at BK314)
         (try simp only [hl287000_119] at HO_275000)
         (try simp only [hl287000_119] at HO_279000)
         (try simp only [hl287000_119] at HO_315000)
         cases kq with
         | zero => exact absurd HA.out (by simp [laws_FnExactDoActs.j2])
         | succ kj119 =>
          have H := HA.out
          clear HA
          simp only [laws_FnExactDoActs.j2] at H
          by_cases c165 : x110_119 = true
          ·subst c165
           have H1 : (some false) = some r := by rw [if_pos rfl] at H; exact H
           clear H
           have H := H1
           clear H1
           exact absurd ((Option.some.inj H).trans hT.out) (by decide)
          replace c165 := Bool.eq_false_iff.mpr c165
          subst c165
          have H1 : ((laws_heldDisk.f kj119 t302 1).bind fun t316 => (if t316 < 0 then (some false) else (if t316 = t301 then (some true) else (some false)))) = some r := by rw [if_neg (show ¬ (false = true) by decide)] at H; exact H
          clear H
          have H := H1
          clear H1
          replace H := bm H
          obtain ⟨t316, A1660, H⟩ := H
          replace H : (if t316 < 0 then (some false) else (if t316 = t301 then (some true) else (some false))) = some r := H
          have A166 := AM A1660
          clear A1660
          by_cases c167 : t316 < 0
          ·rw [if_pos c167] at H
           have c167b0 : decide (t316 < 0) = true := decide_eq_true c167
           clear c167
           exact absurd ((Option.some.inj H).trans hT.out) (by decide)
          rw [if_neg c167] at H
          have c167b0 : decide (t316 < 0) = false := decide_eq_false c167
          clear c167
          by_cases c168 : t316 = t301
          ·rw [if_pos c168] at H
           have c168b0 : (t316 == t301) = true := beq_iff_eq.mpr c168
           have c168b1 : (t316 != t301) = false := bne_eq_false_iff_eq.mpr c168
           clear c168
           obtain rfl := Option.some.inj H
           have hnb169 := NB286_261.out
           have hnc169 := NB261_286.out
           have hnb170 := NB286_274.out
           have hnc170 := NB274_286.out
           have hnb171 := NB286_278.out
           have hnc171 := NB278_286.out
           have hnb172 := NB286_314.out
           have hnc172 := NB314_286.out
           have hcz173_0 : wc.cell? ⟨gb286, 0, none⟩ = some (.slice Ao47 t302.length co47) := bc BK286 0
           have hfz173_0 := blk_frozen BK286.out 0
           go_wp2_with (first | ((with_reducible refine gate_callee (f := 21) rfl ?_); refine goesL_ (some 113) rfl rfl Try.func21 (by kernel_rfl) rfl #[.agg #[.slice Ao47 t302.length co47], .int .i64 1] rfl am ?_; (with_reducible refine (laws_heldDisk.calls kj119 _ _ t302 1 t316 _ ?side1 ?side2 A166.out).mono ?_); (case side1 => repeat (first | exact (Kd.R_reads' HO_287000.out).2.2 | (with_reducible refine Kd.C_alloc ?_ _) | (with_reducible refine Kd.C_drewN ?_ _) | (with_reducible refine Kd.C_drew ?_))); (case side2 => exact (Kd.R_reads' HO_287000.out).2.1); rintro e w174 ⟨rfl, hb⟩; refine ⟨_, rfl, ?_⟩; have n0_ := AM (Kd.R_below (by exact HO_275000.out) hb); have n1_ := AM (Kd.R_below (by exact HO_279000.out) hb); have n2_ := AM (Kd.R_below (by exact HO_287000.out) hb); have n3_ := AM (Kd.R_below (by exact HO_315000.out) hb); have n4_ := AM (blk_below (bk BK261) hb); have n5_ := AM (blk_below (bk BK274) hb); have n6_ := AM (blk_below (bk BK278) hb); have n7_ := AM (blk_below (bk BK286) hb); have n8_ := AM (blk_below (bk BK314) hb); have n9_ := AM (below_step (hS) hb); clear HO_275000; clear HO_279000; clear HO_287000; clear HO_315000; clear BK261; clear BK274; clear BK278; clear BK286; clear BK314; clear HB; have HO_275000 := n0_; have HO_279000 := n1_; have HO_287000 := n2_; have HO_315000 := n3_; have BK261 := n4_; have BK274 := n5_; have BK278 := n6_; have BK286 := n7_; have BK314 := n8_; have HB := n9_; clear n0_ n1_ n2_ n3_ n4_ n5_ n6_ n7_ n8_ n9_; (try clear hb)))
           go_ret
           exact ⟨by first | rfl | (simp [errW_none, errW_some] <;> rfl) | (simp [*, errW_none, errW_some] <;> rfl), hS⟩
          rw [if_neg c168] at H
          have c168b0 : (t316 == t301) = false := beq_eq_false_iff_ne.mpr c168
          have c168b1 : (t316 != t301) = true := bne_iff_ne.mpr c168
          exact absurd ((Option.some.inj H).trans hT.out) (by decide)
       rw [if_neg c116] at H
       have c116b0 : (t303 == t301) = false := beq_eq_false_iff_ne.mpr c116
       have c116b1 : (t303 != t301) = true := bne_iff_ne.mpr c116
       exact absurd ((Option.some.inj H).trans hT.out) (by decide)
    replace c76 := Bool.eq_false_iff.mpr c76
    subst c76
    have H1 : (some false) = some r := by rw [if_neg (show ¬ (false = true) by decide)] at H; exact H
    clear H
    have H := H1
    clear H1
    exact absurd ((Option.some.inj H).trans hT.out) (by decide)
   replace c73 := Bool.eq_false_iff.mpr c73
   subst c73
   have H1 : (some false) = some r := by rw [if_neg (show ¬ (false = true) by decide)] at H; exact H
   clear H
   have H := H1
   clear H1
   exact absurd ((Option.some.inj H).trans hT.out) (by decide)

/-- THE ONE PURE STATEMENT of laws_FnExactDoActs. -/
def laws_FnExactDoActs.Pure : Prop := ∀ (l0_0 : List (S91)) (l1 : List (S37)), (Wide.WfList (fun y : S91 => Wide.WfStr y.f0 ∧ Wide.WfStr y.f1 ∧ (Wide.WfInt .i64) y.f2)) l0_0 → (Wide.WfList (fun y : S37 => (Wide.WfInt .i64) y.f0 ∧ Wide.WfStr y.f1 ∧ Wide.WfStr y.f2 ∧ Wide.WfStr y.f3)) l1 → ∃ k, laws_FnExactDoActs.f k l0_0 l1 = some true

end Go.Proofs.Ytnkldnkolcighaa.XFnExactDoActs
