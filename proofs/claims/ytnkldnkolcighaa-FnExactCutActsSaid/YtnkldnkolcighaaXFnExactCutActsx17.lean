/- What the functions of a law compute, and that their calls compute it: written by a program of this session (xprint.py), which turns the kit print at a few places. -/
import Derived.Test.YtnkldnkolcighaaXFnExactCutActsx0
import Derived.Test.YtnkldnkolcighaaXFnExactCutActsx1
import Derived.Test.YtnkldnkolcighaaXFnExactCutActsx2
import Derived.Test.YtnkldnkolcighaaXFnExactCutActsx3
import Derived.Test.YtnkldnkolcighaaXFnExactCutActsx4
import Derived.Test.YtnkldnkolcighaaXFnExactCutActsx11
import Derived.Test.YtnkldnkolcighaaXFnExactCutActsx16
namespace Go.Proofs.Ytnkldnkolcighaa.XFnExactCutActs
open Go.RowKit Go.Proofs.YtnkldnkolcighaaT.PrintWords Go.Proofs.YtnkldnkolcighaaT.PrintLast Go.Proofs.YtnkldnkolcighaaT.PrintMore
attribute [local go_sem] max2_int min2_int max_two min_two max_three min_three max_four min_four str_geq str_gtr   -- for this text's walks alone
set_option linter.unusedVariables false
set_option linter.unusedSimpArgs false

/-! ### laws_FnExactCutActs: function 7 -/
mutual
def laws_FnExactCutActs.j0 : Nat → List (S37) → Int → List Int → Bool → List (S41) → List Int → Bool → Bool → List (S91) → List (S67) → List (S67) → List (S67) → Option (Bool)
 | 0, _, _, _, _, _, _, _, _, _, _, _, _ => none
 | k + 1, x1, x2, x3, x11, x13, x14, x16, x68, x321000, x337000, x341000, x352000 => if x68 = true then (some false) else ((laws_toDisk.f k x321000).bind fun t353 => ((laws_eqDisk.f k x341000 t353).bind fun t356 => (if t356 = true then ((laws_toActS.f k x1).bind fun t357 => ((laws_eqActS.f k x13 t357).bind fun t360 => (if t360 = true then ((laws_toIntS.f k x3).bind fun t361 => ((laws_eqIntS.f k x14 t361).bind fun t364 => (if t364 = true then ((laws_markDisk.f k x341000 1).bind fun bt365 => ((laws_markActS.f k x13 bt365.1).bind fun bt367 => ((laws_markIntS.f k x14 bt367.1).bind fun bt369 => (if bt369.1 < 0 then (laws_FnExactCutActs.j1 k x1 x2 x3 x11 true x321000 x337000 x352000) else ((laws_eqDisk.f k x352000 x337000).bind fun t371 => (if t371 = true then (laws_FnExactCutActs.j1 k x1 x2 x3 x11 (x16 != x11) x321000 x337000 x352000) else (laws_FnExactCutActs.j1 k x1 x2 x3 x11 true x321000 x337000 x352000))))))) else (some false)))) else (some false)))) else (some false))))
def laws_FnExactCutActs.j1 : Nat → List (S37) → Int → List Int → Bool → Bool → List (S91) → List (S67) → List (S67) → Option (Bool)
 | 0, _, _, _, _, _, _, _, _ => none
 | k + 1, x1, x2, x3, x11, x105, x321000, x337000, x352000 => if x105 = true then (some false) else ((laws_markDisk.f k x352000 1).bind fun bt372 => ((laws_heldDisk.f k bt372.2 1).bind fun t374 => (if t374 < 0 then (some false) else (if t374 = bt372.1 then ((laws_toDisk.f k x321000).bind fun t375 => ((laws_toActS.f k x1).bind fun t378 => ((laws_toIntS.f k x3).bind fun t381 => ((impl_CutActs.f k t375 t378 x2 t381).bind fun bt384 => ((laws_eqDisk.f k bt384.1 x337000).bind fun t389 => (if t389 = true then (laws_FnExactCutActs.j2 k bt372.1 (bt384.2 != x11) bt372.2) else (laws_FnExactCutActs.j2 k bt372.1 true bt372.2))))))) else (some false)))))
def laws_FnExactCutActs.j2 : Nat → Int → Bool → List (S67) → Option (Bool)
 | 0, _, _, _ => none
 | k + 1, x18, x136, x352000 => if x136 = true then (some false) else ((laws_heldDisk.f k x352000 1).bind fun t390 => (if t390 < 0 then (some false) else (if t390 = x18 then (some true) else (some false))))
end
def laws_FnExactCutActs.f (k : Nat) (l0_0 : List (S91)) (l1 : List (S37)) (a2 : Int) (l3 : List Int) : Option (Bool) := if (l3.length : Int) > 1048576 then (some true) else ((laws_szDisk.f k l0_0 1048576).bind fun t321 => (if t321 < 0 then (some true) else ((laws_szActS.f k l1 t321).bind fun t322 => (if t322 < 0 then (some true) else ((laws_toDisk.f k l0_0).bind fun t323 => ((laws_toActS.f k l1).bind fun t326 => ((laws_toIntS.f k l3).bind fun t329 => ((spec_CutActs.f k t323 t326 a2 t329).bind fun bt332 => ((laws_toDisk.f k l0_0).bind fun t337 => ((laws_toActS.f k l1).bind fun t341 => ((laws_toIntS.f k l3).bind fun t344 => ((impl_CutActs.f k t337 t341 a2 t344).bind fun bt347 => ((laws_eqDisk.f k bt347.1 bt332.1).bind fun t352 => (if t352 = true then (laws_FnExactCutActs.j0 k l1 a2 l3 bt332.2 t341 t344 bt347.2 (bt347.2 != bt332.2) l0_0 bt332.1 t337 bt347.1) else (laws_FnExactCutActs.j0 k l1 a2 l3 bt332.2 t341 t344 bt347.2 true l0_0 bt332.1 t337 bt347.1)))))))))))))))
theorem laws_FnExactCutActs.mono_l : ∀ k, (∀ y0 y1 y2 y3 y4 y5 y6 y7 y8 y9 y10 y11, LeO (laws_FnExactCutActs.j0 k y0 y1 y2 y3 y4 y5 y6 y7 y8 y9 y10 y11) (laws_FnExactCutActs.j0 (k + 1) y0 y1 y2 y3 y4 y5 y6 y7 y8 y9 y10 y11)) ∧ (∀ y0 y1 y2 y3 y4 y5 y6 y7, LeO (laws_FnExactCutActs.j1 k y0 y1 y2 y3 y4 y5 y6 y7) (laws_FnExactCutActs.j1 (k + 1) y0 y1 y2 y3 y4 y5 y6 y7)) ∧ (∀ y0 y1 y2, LeO (laws_FnExactCutActs.j2 k y0 y1 y2) (laws_FnExactCutActs.j2 (k + 1) y0 y1 y2))
 | 0 => ⟨fun _ _ _ _ _ _ _ _ _ _ _ _ r h => by simp [laws_FnExactCutActs.j0] at h, fun _ _ _ _ _ _ _ _ r h => by simp [laws_FnExactCutActs.j1] at h, fun _ _ _ r h => by simp [laws_FnExactCutActs.j2] at h⟩
 | k + 1 => by
  obtain ⟨ih0, ih1, ih2⟩ := laws_FnExactCutActs.mono_l k
  refine ⟨?_, ?_, ?_⟩
  ·intro y0 y1 y2 y3 y4 y5 y6 y7 y8 y9 y10 y11
   unfold laws_FnExactCutActs.j0
   repeat' first
   | (with_reducible exact ih0 _ _ _ _ _ _ _ _ _ _ _ _)
   | (with_reducible exact ih1 _ _ _ _ _ _ _ _)
   | (with_reducible exact ih2 _ _ _)
   | (with_reducible exact impl_CutActs.mono _ _ _ _ _)
   | (with_reducible exact laws_eqActS.mono _ _ _)
   | (with_reducible exact laws_eqDisk.mono _ _ _)
   | (with_reducible exact laws_eqIntS.mono _ _ _)
   | (with_reducible exact laws_heldDisk.mono _ _ _)
   | (with_reducible exact laws_markActS.mono _ _ _)
   | (with_reducible exact laws_markDisk.mono _ _ _)
   | (with_reducible exact laws_markIntS.mono _ _ _)
   | (with_reducible exact laws_szActS.mono _ _ _)
   | (with_reducible exact laws_szDisk.mono _ _ _)
   | (with_reducible exact laws_toActS.mono _ _)
   | (with_reducible exact laws_toDisk.mono _ _)
   | (with_reducible exact laws_toIntS.mono _ _)
   | (with_reducible exact spec_CutActs.mono _ _ _ _ _)
   | (with_reducible exact LeO.refl _)
   | (with_reducible exact LeO.none _)
   | (with_reducible refine LeO.ite ?_ ?_)
   | (with_reducible refine LeO.bind ?_ (fun _ => ?_))
   | exact ih0 _ _ _ _ _ _ _ _ _ _ _ _
   | exact ih1 _ _ _ _ _ _ _ _
   | exact ih2 _ _ _
   | exact impl_CutActs.mono _ _ _ _ _
   | exact laws_eqActS.mono _ _ _
   | exact laws_eqDisk.mono _ _ _
   | exact laws_eqIntS.mono _ _ _
   | exact laws_heldDisk.mono _ _ _
   | exact laws_markActS.mono _ _ _
   | exact laws_markDisk.mono _ _ _
   | exact laws_markIntS.mono _ _ _
   | exact laws_szActS.mono _ _ _
   | exact laws_szDisk.mono _ _ _
   | exact laws_toActS.mono _ _
   | exact laws_toDisk.mono _ _
   | exact laws_toIntS.mono _ _
   | exact spec_CutActs.mono _ _ _ _ _
   | exact LeO.none _
   | refine LeO.ite ?_ ?_
   | refine LeO.bind ?_ (fun _ => ?_)
  ·intro y0 y1 y2 y3 y4 y5 y6 y7
   unfold laws_FnExactCutActs.j1
   repeat' first
   | (with_reducible exact ih0 _ _ _ _ _ _ _ _ _ _ _ _)
   | (with_reducible exact ih1 _ _ _ _ _ _ _ _)
   | (with_reducible exact ih2 _ _ _)
   | (with_reducible exact impl_CutActs.mono _ _ _ _ _)
   | (with_reducible exact laws_eqActS.mono _ _ _)
   | (with_reducible exact laws_eqDisk.mono _ _ _)
   | (with_reducible exact laws_eqIntS.mono _ _ _)
   | (with_reducible exact laws_heldDisk.mono _ _ _)
   | (with_reducible exact laws_markActS.mono _ _ _)
   | (with_reducible exact laws_markDisk.mono _ _ _)
   | (with_reducible exact laws_markIntS.mono _ _ _)
   | (with_reducible exact laws_szActS.mono _ _ _)
   | (with_reducible exact laws_szDisk.mono _ _ _)
   | (with_reducible exact laws_toActS.mono _ _)
   | (with_reducible exact laws_toDisk.mono _ _)
   | (with_reducible exact laws_toIntS.mono _ _)
   | (with_reducible exact spec_CutActs.mono _ _ _ _ _)
   | (with_reducible exact LeO.refl _)
   | (with_reducible exact LeO.none _)
   | (with_reducible refine LeO.ite ?_ ?_)
   | (with_reducible refine LeO.bind ?_ (fun _ => ?_))
   | exact ih0 _ _ _ _ _ _ _ _ _ _ _ _
   | exact ih1 _ _ _ _ _ _ _ _
   | exact ih2 _ _ _
   | exact impl_CutActs.mono _ _ _ _ _
   | exact laws_eqActS.mono _ _ _
   | exact laws_eqDisk.mono _ _ _
   | exact laws_eqIntS.mono _ _ _
   | exact laws_heldDisk.mono _ _ _
   | exact laws_markActS.mono _ _ _
   | exact laws_markDisk.mono _ _ _
   | exact laws_markIntS.mono _ _ _
   | exact laws_szActS.mono _ _ _
   | exact laws_szDisk.mono _ _ _
   | exact laws_toActS.mono _ _
   | exact laws_toDisk.mono _ _
   | exact laws_toIntS.mono _ _
   | exact spec_CutActs.mono _ _ _ _ _
   | exact LeO.none _
   | refine LeO.ite ?_ ?_
   | refine LeO.bind ?_ (fun _ => ?_)
  intro y0 y1 y2
  unfold laws_FnExactCutActs.j2
  repeat' first
  | (with_reducible exact ih0 _ _ _ _ _ _ _ _ _ _ _ _)
  | (with_reducible exact ih1 _ _ _ _ _ _ _ _)
  | (with_reducible exact ih2 _ _ _)
  | (with_reducible exact impl_CutActs.mono _ _ _ _ _)
  | (with_reducible exact laws_eqActS.mono _ _ _)
  | (with_reducible exact laws_eqDisk.mono _ _ _)
  | (with_reducible exact laws_eqIntS.mono _ _ _)
  | (with_reducible exact laws_heldDisk.mono _ _ _)
  | (with_reducible exact laws_markActS.mono _ _ _)
  | (with_reducible exact laws_markDisk.mono _ _ _)
  | (with_reducible exact laws_markIntS.mono _ _ _)
  | (with_reducible exact laws_szActS.mono _ _ _)
  | (with_reducible exact laws_szDisk.mono _ _ _)
  | (with_reducible exact laws_toActS.mono _ _)
  | (with_reducible exact laws_toDisk.mono _ _)
  | (with_reducible exact laws_toIntS.mono _ _)
  | (with_reducible exact spec_CutActs.mono _ _ _ _ _)
  | (with_reducible exact LeO.refl _)
  | (with_reducible exact LeO.none _)
  | (with_reducible refine LeO.ite ?_ ?_)
  | (with_reducible refine LeO.bind ?_ (fun _ => ?_))
  | exact ih0 _ _ _ _ _ _ _ _ _ _ _ _
  | exact ih1 _ _ _ _ _ _ _ _
  | exact ih2 _ _ _
  | exact impl_CutActs.mono _ _ _ _ _
  | exact laws_eqActS.mono _ _ _
  | exact laws_eqDisk.mono _ _ _
  | exact laws_eqIntS.mono _ _ _
  | exact laws_heldDisk.mono _ _ _
  | exact laws_markActS.mono _ _ _
  | exact laws_markDisk.mono _ _ _
  | exact laws_markIntS.mono _ _ _
  | exact laws_szActS.mono _ _ _
  | exact laws_szDisk.mono _ _ _
  | exact laws_toActS.mono _ _
  | exact laws_toDisk.mono _ _
  | exact laws_toIntS.mono _ _
  | exact spec_CutActs.mono _ _ _ _ _
  | exact LeO.none _
  | refine LeO.ite ?_ ?_
  | refine LeO.bind ?_ (fun _ => ?_)
theorem laws_FnExactCutActs.mono : ∀ a0 a1 a2 a3 k, LeO (laws_FnExactCutActs.f k a0 a1 a2 a3) (laws_FnExactCutActs.f (k + 1) a0 a1 a2 a3) := by
 intro a0 a1 a2 a3 k
 obtain ⟨ih0, ih1, ih2⟩ := laws_FnExactCutActs.mono_l k
 unfold laws_FnExactCutActs.f
 repeat' first
   | (with_reducible exact ih0 _ _ _ _ _ _ _ _ _ _ _ _)
   | (with_reducible exact ih1 _ _ _ _ _ _ _ _)
   | (with_reducible exact ih2 _ _ _)
   | (with_reducible exact impl_CutActs.mono _ _ _ _ _)
   | (with_reducible exact laws_eqActS.mono _ _ _)
   | (with_reducible exact laws_eqDisk.mono _ _ _)
   | (with_reducible exact laws_eqIntS.mono _ _ _)
   | (with_reducible exact laws_heldDisk.mono _ _ _)
   | (with_reducible exact laws_markActS.mono _ _ _)
   | (with_reducible exact laws_markDisk.mono _ _ _)
   | (with_reducible exact laws_markIntS.mono _ _ _)
   | (with_reducible exact laws_szActS.mono _ _ _)
   | (with_reducible exact laws_szDisk.mono _ _ _)
   | (with_reducible exact laws_toActS.mono _ _)
   | (with_reducible exact laws_toDisk.mono _ _)
   | (with_reducible exact laws_toIntS.mono _ _)
   | (with_reducible exact spec_CutActs.mono _ _ _ _ _)
   | (with_reducible exact LeO.refl _)
   | (with_reducible exact LeO.none _)
   | (with_reducible refine LeO.ite ?_ ?_)
   | (with_reducible refine LeO.bind ?_ (fun _ => ?_))
   | exact ih0 _ _ _ _ _ _ _ _ _ _ _ _
   | exact ih1 _ _ _ _ _ _ _ _
   | exact ih2 _ _ _
   | exact impl_CutActs.mono _ _ _ _ _
   | exact laws_eqActS.mono _ _ _
   | exact laws_eqDisk.mono _ _ _
   | exact laws_eqIntS.mono _ _ _
   | exact laws_heldDisk.mono _ _ _
   | exact laws_markActS.mono _ _ _
   | exact laws_markDisk.mono _ _ _
   | exact laws_markIntS.mono _ _ _
   | exact laws_szActS.mono _ _ _
   | exact laws_szDisk.mono _ _ _
   | exact laws_toActS.mono _ _
   | exact laws_toDisk.mono _ _
   | exact laws_toIntS.mono _ _
   | exact spec_CutActs.mono _ _ _ _ _
   | exact LeO.none _
   | refine LeO.ite ?_ ?_
   | refine LeO.bind ?_ (fun _ => ?_)
set_option maxHeartbeats 8000000 in
set_option maxRecDepth 100000 in
theorem laws_FnExactCutActs.calls (k : Nat) (A0_0 : Option Addr) (c0_0 : Nat) (l0_0 : List (S91)) (A1 : Option Addr) (c1 : Nat) (l1 : List (S37)) (a2 : Int) (A3 : Option Addr) (c3 : Nat) (l3 : List Int) (r : Bool) (w : World) (hr0_0 : Kd.C k91 w A0_0 l0_0.length l0_0) (hc0_0 : l0_0.length ≤ c0_0) (hr1 : Kd.C k37 w A1 l1.length l1) (hc1 : l1.length ≤ c1) (hr3 : Kd.C (Kd.int .i64) w A3 l3.length l3) (hc3 : l3.length ≤ c3) (h : laws_FnExactCutActs.f k l0_0 l1 a2 l3 = some r) (hT : Aside0 (r = true) := by exact ⟨rfl⟩) :
  Calls Try.prog 7 #[.agg #[.slice A0_0 l0_0.length c0_0], .slice A1 l1.length c1, .int .i64 a2, .slice A3 l3.length c3] w fun e w' => e = .returned (.bool r) ∧ Below w.heap.size w w' := by
 have hu24 := Try.underlying24
 have hu30 := Try.underlying30
 have HR0_0 := AM hr0_0
 have HC0_0 := AM hc0_0
 clear hr0_0 hc0_0
 have HR1 := AM hr1
 have HC1 := AM hc1
 clear hr1 hc1
 have HR3 := AM hr3
 have HC3 := AM hc3
 clear hr3 hc3
 have HB := AM (Below.refl w.heap.size w)
 have H : (if (l3.length : Int) > 1048576 then (some true) else ((laws_szDisk.f k l0_0 1048576).bind fun t321 => (if t321 < 0 then (some true) else ((laws_szActS.f k l1 t321).bind fun t322 => (if t322 < 0 then (some true) else ((laws_toDisk.f k l0_0).bind fun t323 => ((laws_toActS.f k l1).bind fun t326 => ((laws_toIntS.f k l3).bind fun t329 => ((spec_CutActs.f k t323 t326 a2 t329).bind fun bt332 => ((laws_toDisk.f k l0_0).bind fun t337 => ((laws_toActS.f k l1).bind fun t341 => ((laws_toIntS.f k l3).bind fun t344 => ((impl_CutActs.f k t337 t341 a2 t344).bind fun bt347 => ((laws_eqDisk.f k bt347.1 bt332.1).bind fun t352 => (if t352 = true then (laws_FnExactCutActs.j0 k l1 a2 l3 bt332.2 t341 t344 bt347.2 (bt347.2 != bt332.2) l0_0 bt332.1 t337 bt347.1) else (laws_FnExactCutActs.j0 k l1 a2 l3 bt332.2 t341 t344 bt347.2 true l0_0 bt332.1 t337 bt347.1)))))))))))))))) = some r := h
 clear h
 by_cases c5 : (l3.length : Int) > 1048576
 ·rw [if_pos c5] at H
  have c5b0 : decide (1048576 < (l3.length : Int)) = true := decide_eq_true c5
  have c5b1 : decide (1048576 < l3.length) = true := decide_eq_true (by omega)
  clear c5
  obtain rfl := Option.some.inj H
  go_enter Try.func7, Try.ntmps7
  go_wp2_with (first | ((with_reducible refine gd 4 rfl ?_); refine bx (N := 4) (cs := #[.slice A0_0 l0_0.length c0_0]) (t := 24) ?_; intro gb320 hg w6 hbox hb; have BK320 := AM (hbox); have GW320 := AM (bs hg HB); have GE320 := AM (bs hg HB); replace HB := bq HB hb; clear hb hbox hg))
  go_ret
  exact ⟨er, hS⟩
 rw [if_neg c5] at H
 have c5b0 : decide (1048576 < (l3.length : Int)) = false := decide_eq_false c5
 have c5b1 : decide (1048576 < l3.length) = false := decide_eq_false (by omega)
 clear c5
 replace H := bm H
 obtain ⟨t321, A70, H⟩ := H
 replace H : (if t321 < 0 then (some true) else ((laws_szActS.f k l1 t321).bind fun t322 => (if t322 < 0 then (some true) else ((laws_toDisk.f k l0_0).bind fun t323 => ((laws_toActS.f k l1).bind fun t326 => ((laws_toIntS.f k l3).bind fun t329 => ((spec_CutActs.f k t323 t326 a2 t329).bind fun bt332 => ((laws_toDisk.f k l0_0).bind fun t337 => ((laws_toActS.f k l1).bind fun t341 => ((laws_toIntS.f k l3).bind fun t344 => ((impl_CutActs.f k t337 t341 a2 t344).bind fun bt347 => ((laws_eqDisk.f k bt347.1 bt332.1).bind fun t352 => (if t352 = true then (laws_FnExactCutActs.j0 k l1 a2 l3 bt332.2 t341 t344 bt347.2 (bt347.2 != bt332.2) l0_0 bt332.1 t337 bt347.1) else (laws_FnExactCutActs.j0 k l1 a2 l3 bt332.2 t341 t344 bt347.2 true l0_0 bt332.1 t337 bt347.1)))))))))))))) = some r := H
 have A7 := AM A70
 clear A70
 by_cases c8 : t321 < 0
 ·rw [if_pos c8] at H
  have c8b0 : decide (t321 < 0) = true := decide_eq_true c8
  clear c8
  obtain rfl := Option.some.inj H
  go_enter Try.func7, Try.ntmps7
  go_wp2_with (first | ((with_reducible refine gd 4 rfl ?_); refine bx (N := 4) (cs := #[.slice A0_0 l0_0.length c0_0]) (t := 24) ?_; intro gb320 hg w9 hbox hb; have BK320 := AM (hbox); have GW320 := AM (bs hg HB); have GE320 := AM (bs hg HB); replace HB := bq HB hb; clear hb hbox hg; have hcz10_0 := bv BK320 0 (.slice A0_0 l0_0.length c0_0); have hfz10_0 := bz BK320 0) | ((with_reducible refine gc 9 rfl ?_); refine goesL_ (some 27) rfl rfl Try.func9 (by kernel_rfl) rfl #[.agg #[.slice A0_0 l0_0.length c0_0], .int .i64 1048576] rfl am ?_; (with_reducible refine (laws_szDisk.calls k _ _ l0_0 1048576 t321 _ ?side1 ?side2 A7.out).mono ?_); (case side1 => repeat (first | exact (Kd.C_below HR0_0.out HB.out) | (with_reducible first | refine cA ?_ _ | refine cN ?_ _ | refine cD ?_))); (case side2 => exact HC0_0.out); rintro e w11 ⟨rfl, hb⟩; refine ⟨_, rfl, ?_⟩; replace BK320 := bw BK320 hb; replace HB := AM (below_step (hS) hb); (try clear hb)))
  go_ret
  exact ⟨er, hS⟩
 rw [if_neg c8] at H
 have c8b0 : decide (t321 < 0) = false := decide_eq_false c8
 clear c8
 replace H := bm H
 obtain ⟨t322, A120, H⟩ := H
 replace H : (if t322 < 0 then (some true) else ((laws_toDisk.f k l0_0).bind fun t323 => ((laws_toActS.f k l1).bind fun t326 => ((laws_toIntS.f k l3).bind fun t329 => ((spec_CutActs.f k t323 t326 a2 t329).bind fun bt332 => ((laws_toDisk.f k l0_0).bind fun t337 => ((laws_toActS.f k l1).bind fun t341 => ((laws_toIntS.f k l3).bind fun t344 => ((impl_CutActs.f k t337 t341 a2 t344).bind fun bt347 => ((laws_eqDisk.f k bt347.1 bt332.1).bind fun t352 => (if t352 = true then (laws_FnExactCutActs.j0 k l1 a2 l3 bt332.2 t341 t344 bt347.2 (bt347.2 != bt332.2) l0_0 bt332.1 t337 bt347.1) else (laws_FnExactCutActs.j0 k l1 a2 l3 bt332.2 t341 t344 bt347.2 true l0_0 bt332.1 t337 bt347.1)))))))))))) = some r := H
 have A12 := AM A120
 clear A120
 by_cases c13 : t322 < 0
 ·rw [if_pos c13] at H
  have c13b0 : decide (t322 < 0) = true := decide_eq_true c13
  clear c13
  obtain rfl := Option.some.inj H
  go_enter Try.func7, Try.ntmps7
  go_wp2_with (first | ((with_reducible refine gd 4 rfl ?_); refine bx (N := 4) (cs := #[.slice A0_0 l0_0.length c0_0]) (t := 24) ?_; intro gb320 hg w14 hbox hb; have BK320 := AM (hbox); have GW320 := AM (bs hg HB); have GE320 := AM (bs hg HB); replace HB := bq HB hb; clear hb hbox hg; have hcz15_0 := bv BK320 0 (.slice A0_0 l0_0.length c0_0); have hfz15_0 := bz BK320 0) | ((with_reducible refine gc 9 rfl ?_); refine goesL_ (some 27) rfl rfl Try.func9 (by kernel_rfl) rfl #[.agg #[.slice A0_0 l0_0.length c0_0], .int .i64 1048576] rfl am ?_; (with_reducible refine (laws_szDisk.calls k _ _ l0_0 1048576 t321 _ ?side1 ?side2 A7.out).mono ?_); (case side1 => repeat (first | exact (Kd.C_below HR0_0.out HB.out) | (with_reducible first | refine cA ?_ _ | refine cN ?_ _ | refine cD ?_))); (case side2 => exact HC0_0.out); rintro e w16 ⟨rfl, hb⟩; refine ⟨_, rfl, ?_⟩; replace BK320 := bw BK320 hb; replace HB := AM (below_step (hS) hb); (try clear hb)) | ((with_reducible refine gc 22 rfl ?_); refine goesL_ (some 32) rfl rfl Try.func22 (by kernel_rfl) rfl #[.slice A1 l1.length c1, .int .i64 t321] rfl am ?_; (with_reducible refine (laws_szActS.calls k _ _ l1 t321 t322 _ ?side1 ?side2 A12.out).mono ?_); (case side1 => repeat (first | exact (Kd.C_below HR1.out HB.out) | (with_reducible first | refine cA ?_ _ | refine cN ?_ _ | refine cD ?_))); (case side2 => exact HC1.out); rintro e w17 ⟨rfl, hb⟩; refine ⟨_, rfl, ?_⟩; replace BK320 := bw BK320 hb; replace HB := AM (below_step (hS) hb); (try clear hb)))
  go_ret
  exact ⟨er, hS⟩
 rw [if_neg c13] at H
 have c13b0 : decide (t322 < 0) = false := decide_eq_false c13
 clear c13
 replace H := bm H
 obtain ⟨t323, A180, H⟩ := H
 replace H : ((laws_toActS.f k l1).bind fun t326 => ((laws_toIntS.f k l3).bind fun t329 => ((spec_CutActs.f k t323 t326 a2 t329).bind fun bt332 => ((laws_toDisk.f k l0_0).bind fun t337 => ((laws_toActS.f k l1).bind fun t341 => ((laws_toIntS.f k l3).bind fun t344 => ((impl_CutActs.f k t337 t341 a2 t344).bind fun bt347 => ((laws_eqDisk.f k bt347.1 bt332.1).bind fun t352 => (if t352 = true then (laws_FnExactCutActs.j0 k l1 a2 l3 bt332.2 t341 t344 bt347.2 (bt347.2 != bt332.2) l0_0 bt332.1 t337 bt347.1) else (laws_FnExactCutActs.j0 k l1 a2 l3 bt332.2 t341 t344 bt347.2 true l0_0 bt332.1 t337 bt347.1)))))))))) = some r := H
 have A18 := AM A180
 clear A180
 replace H := bm H
 obtain ⟨t326, A190, H⟩ := H
 replace H : ((laws_toIntS.f k l3).bind fun t329 => ((spec_CutActs.f k t323 t326 a2 t329).bind fun bt332 => ((laws_toDisk.f k l0_0).bind fun t337 => ((laws_toActS.f k l1).bind fun t341 => ((laws_toIntS.f k l3).bind fun t344 => ((impl_CutActs.f k t337 t341 a2 t344).bind fun bt347 => ((laws_eqDisk.f k bt347.1 bt332.1).bind fun t352 => (if t352 = true then (laws_FnExactCutActs.j0 k l1 a2 l3 bt332.2 t341 t344 bt347.2 (bt347.2 != bt332.2) l0_0 bt332.1 t337 bt347.1) else (laws_FnExactCutActs.j0 k l1 a2 l3 bt332.2 t341 t344 bt347.2 true l0_0 bt332.1 t337 bt347.1))))))))) = some r := H
 have A19 := AM A190
 clear A190
 replace H := bm H
 obtain ⟨t329, A200, H⟩ := H
 replace H : ((spec_CutActs.f k t323 t326 a2 t329).bind fun bt332 => ((laws_toDisk.f k l0_0).bind fun t337 => ((laws_toActS.f k l1).bind fun t341 => ((laws_toIntS.f k l3).bind fun t344 => ((impl_CutActs.f k t337 t341 a2 t344).bind fun bt347 => ((laws_eqDisk.f k bt347.1 bt332.1).bind fun t352 => (if t352 = true then (laws_FnExactCutActs.j0 k l1 a2 l3 bt332.2 t341 t344 bt347.2 (bt347.2 != bt332.2) l0_0 bt332.1 t337 bt347.1) else (laws_FnExactCutActs.j0 k l1 a2 l3 bt332.2 t341 t344 bt347.2 true l0_0 bt332.1 t337 bt347.1)))))))) = some r := H
 have A20 := AM A200
 clear A200
 replace H := bm H
 obtain ⟨⟨t332, t335⟩, A210, H⟩ := H
 replace H : ((laws_toDisk.f k l0_0).bind fun t337 => ((laws_toActS.f k l1).bind fun t341 => ((laws_toIntS.f k l3).bind fun t344 => ((impl_CutActs.f k t337 t341 a2 t344).bind fun bt347 => ((laws_eqDisk.f k bt347.1 t332).bind fun t352 => (if t352 = true then (laws_FnExactCutActs.j0 k l1 a2 l3 t335 t341 t344 bt347.2 (bt347.2 != t335) l0_0 t332 t337 bt347.1) else (laws_FnExactCutActs.j0 k l1 a2 l3 t335 t341 t344 bt347.2 true l0_0 t332 t337 bt347.1))))))) = some r := H
 have A21 := AM A210
 clear A210
 replace H := bm H
 obtain ⟨t337, A220, H⟩ := H
 replace H : ((laws_toActS.f k l1).bind fun t341 => ((laws_toIntS.f k l3).bind fun t344 => ((impl_CutActs.f k t337 t341 a2 t344).bind fun bt347 => ((laws_eqDisk.f k bt347.1 t332).bind fun t352 => (if t352 = true then (laws_FnExactCutActs.j0 k l1 a2 l3 t335 t341 t344 bt347.2 (bt347.2 != t335) l0_0 t332 t337 bt347.1) else (laws_FnExactCutActs.j0 k l1 a2 l3 t335 t341 t344 bt347.2 true l0_0 t332 t337 bt347.1)))))) = some r := H
 have A22 := AM A220
 clear A220
 replace H := bm H
 obtain ⟨t341, A230, H⟩ := H
 replace H : ((laws_toIntS.f k l3).bind fun t344 => ((impl_CutActs.f k t337 t341 a2 t344).bind fun bt347 => ((laws_eqDisk.f k bt347.1 t332).bind fun t352 => (if t352 = true then (laws_FnExactCutActs.j0 k l1 a2 l3 t335 t341 t344 bt347.2 (bt347.2 != t335) l0_0 t332 t337 bt347.1) else (laws_FnExactCutActs.j0 k l1 a2 l3 t335 t341 t344 bt347.2 true l0_0 t332 t337 bt347.1))))) = some r := H
 have A23 := AM A230
 clear A230
 replace H := bm H
 obtain ⟨t344, A240, H⟩ := H
 replace H : ((impl_CutActs.f k t337 t341 a2 t344).bind fun bt347 => ((laws_eqDisk.f k bt347.1 t332).bind fun t352 => (if t352 = true then (laws_FnExactCutActs.j0 k l1 a2 l3 t335 t341 t344 bt347.2 (bt347.2 != t335) l0_0 t332 t337 bt347.1) else (laws_FnExactCutActs.j0 k l1 a2 l3 t335 t341 t344 bt347.2 true l0_0 t332 t337 bt347.1)))) = some r := H
 have A24 := AM A240
 clear A240
 replace H := bm H
 obtain ⟨⟨t347, t350⟩, A250, H⟩ := H
 replace H : ((laws_eqDisk.f k t347 t332).bind fun t352 => (if t352 = true then (laws_FnExactCutActs.j0 k l1 a2 l3 t335 t341 t344 t350 (t350 != t335) l0_0 t332 t337 t347) else (laws_FnExactCutActs.j0 k l1 a2 l3 t335 t341 t344 t350 true l0_0 t332 t337 t347))) = some r := H
 have A25 := AM A250
 clear A250
 have HC26 := AM H
 clear H
 go_enter Try.func7, Try.ntmps7
 go_upto_region 15 with (first | ((with_reducible refine gd 4 rfl ?_); refine bx (N := 4) (cs := #[.slice A0_0 l0_0.length c0_0]) (t := 24) ?_; intro gb320 hg w27 hbox hb; have BK320 := AM (hbox); have GW320 := AM (bs hg HB); have GE320 := AM (bs hg HB); replace HB := bq HB hb; clear hb hbox hg; have hcz28_0 := bv BK320 0 (.slice A0_0 l0_0.length c0_0); have hfz28_0 := bz BK320 0) | ((with_reducible refine gc 9 rfl ?_); refine goesL_ (some 27) rfl rfl Try.func9 (by kernel_rfl) rfl #[.agg #[.slice A0_0 l0_0.length c0_0], .int .i64 1048576] rfl am ?_; (with_reducible refine (laws_szDisk.calls k _ _ l0_0 1048576 t321 _ ?side1 ?side2 A7.out).mono ?_); (case side1 => repeat (first | exact (Kd.C_below HR0_0.out HB.out) | (with_reducible first | refine cA ?_ _ | refine cN ?_ _ | refine cD ?_))); (case side2 => exact HC0_0.out); rintro e w29 ⟨rfl, hb⟩; refine ⟨_, rfl, ?_⟩; replace BK320 := bw BK320 hb; replace HB := AM (below_step (hS) hb); (try clear hb)) | ((with_reducible refine gc 22 rfl ?_); refine goesL_ (some 32) rfl rfl Try.func22 (by kernel_rfl) rfl #[.slice A1 l1.length c1, .int .i64 t321] rfl am ?_; (with_reducible refine (laws_szActS.calls k _ _ l1 t321 t322 _ ?side1 ?side2 A12.out).mono ?_); (case side1 => repeat (first | exact (Kd.C_below HR1.out HB.out) | (with_reducible first | refine cA ?_ _ | refine cN ?_ _ | refine cD ?_))); (case side2 => exact HC1.out); rintro e w30 ⟨rfl, hb⟩; refine ⟨_, rfl, ?_⟩; replace BK320 := bw BK320 hb; replace HB := AM (below_step (hS) hb); (try clear hb); have hcz31_0 := bv BK320 0 (.slice A0_0 l0_0.length c0_0); have hfz31_0 := bz BK320 0) | ((with_reducible refine gc 11 rfl ?_); refine goesL_ (some 37) rfl rfl Try.func11 (by kernel_rfl) rfl #[.agg #[.slice A0_0 l0_0.length c0_0]] rfl am ?_; (with_reducible refine (laws_toDisk.calls k _ _ l0_0 t323 _ ?side1 ?side2 A18.out).mono ?_); (case side1 => repeat (first | exact (Kd.C_below HR0_0.out HB.out) | (with_reducible first | refine cA ?_ _ | refine cN ?_ _ | refine cD ?_))); (case side2 => exact HC0_0.out); rintro e w32 ⟨v324, rfl, ho0, hb⟩; refine ⟨_, rfl, ?_⟩; have HO325 := AM (Kd.R_lower ho0 (below_size (hS))); replace BK320 := bw BK320 hb; replace HB := AM (below_step (hS) hb); (try clear hb); (try clear ho0)) | ((with_reducible refine gc 24 rfl ?_); refine goesL_ (some 39) rfl rfl Try.func24 (by kernel_rfl) rfl #[.slice A1 l1.length c1] rfl am ?_; (with_reducible refine (laws_toActS.calls k _ _ l1 t326 _ ?side1 ?side2 A19.out).mono ?_); (case side1 => repeat (first | exact (Kd.C_below HR1.out HB.out) | (with_reducible first | refine cA ?_ _ | refine cN ?_ _ | refine cD ?_))); (case side2 => exact HC1.out); rintro e w33 ⟨v327, rfl, ho0, hb⟩; refine ⟨_, rfl, ?_⟩; replace HO325 := AM (Kd.R_below (by exact HO325.out) hb); have HO328 := AM (Kd.R_lower ho0 (below_size (hS))); replace BK320 := bw BK320 hb; replace HB := AM (below_step (hS) hb); (try clear hb); (try clear ho0)) | ((with_reducible refine gc 29 rfl ?_); refine goesL_ (some 42) rfl rfl Try.func29 (by kernel_rfl) rfl #[.slice A3 l3.length c3] rfl am ?_; (with_reducible refine (laws_toIntS.calls k _ _ l3 t329 _ ?side1 ?side2 A20.out).mono ?_); (case side1 => repeat (first | exact (Kd.C_below HR3.out HB.out) | (with_reducible first | refine cA ?_ _ | refine cN ?_ _ | refine cD ?_))); (case side2 => exact HC3.out); rintro e w34 ⟨v330, rfl, ho0, hb⟩; refine ⟨_, rfl, ?_⟩; replace HO325 := AM (Kd.R_below (by exact HO325.out) hb); replace HO328 := AM (Kd.R_below (by exact HO328.out) hb); have HO331 := AM (Kd.R_lower ho0 (below_size (hS))); replace BK320 := bw BK320 hb; replace HB := AM (below_step (hS) hb); (try clear hb); (try clear ho0); obtain ⟨Ao35, co35, eo35⟩ := Kd.R_slice HO325.out; subst eo35; obtain ⟨Ao36, co36, eo36⟩ := Kd.R_slice HO328.out; subst eo36; obtain ⟨Ao37, co37, eo37⟩ := Kd.R_slice HO331.out; subst eo37) | ((with_reducible refine gc 28 rfl ?_); refine goesL_ (some 43) rfl rfl Try.func28 (by kernel_rfl) rfl #[.agg #[.slice Ao35 t323.length co35], .slice Ao36 t326.length co36, .int .i64 a2, .slice Ao37 t329.length co37] rfl am ?_; (with_reducible refine (spec_CutActs.calls k _ _ t323 _ _ t326 a2 _ _ t329 t332 t335 _ ?side1 ?side2 ?side3 ?side4 ?side5 ?side6 A21.out).mono ?_); (case side1 => repeat (first | exact (Kd.R_reads' HO325.out).2.2 | (with_reducible first | refine cA ?_ _ | refine cN ?_ _ | refine cD ?_))); (case side2 => exact (Kd.R_reads' HO325.out).2.1); (case side3 => repeat (first | exact (Kd.R_reads' HO328.out).2.2 | (with_reducible first | refine cA ?_ _ | refine cN ?_ _ | refine cD ?_))); (case side4 => exact (Kd.R_reads' HO328.out).2.1); (case side5 => repeat (first | exact (Kd.R_reads' HO331.out).2.2 | (with_reducible first | refine cA ?_ _ | refine cN ?_ _ | refine cD ?_))); (case side6 => exact (Kd.R_reads' HO331.out).2.1); rintro e w38 ⟨v333, rfl, ho0, hb⟩; refine ⟨_, rfl, ?_⟩; replace HO328 := AM (Kd.R_below (by exact HO328.out) hb); replace HO331 := AM (Kd.R_below (by exact HO331.out) hb); have HO334 := AM (Kd.R_lower (Kd.R_new' ho0 (Kd.R_lt (by exact HO325.out))) (below_size (hS))); replace HO325 := AM (Kd.R_elder' (by exact HO325.out) (Kd.R_base ho0) hb); replace BK320 := bw BK320 hb; replace HB := AM (below_step (hS) hb); (try clear hb); (try clear ho0)) | ((with_reducible refine gd 10 rfl ?_); refine bx (N := 10) (cs := #[.slice none 0 0]) (t := 30) ?_; intro gb336 hg w39 hbox hb; replace HO325 := AM (Kd.R_below (by exact HO325.out) hb); replace HO328 := AM (Kd.R_below (by exact HO328.out) hb); replace HO331 := AM (Kd.R_below (by exact HO331.out) hb); replace HO334 := AM (Kd.R_below (by exact HO334.out) hb); have BK336 := AM (hbox); have GW336 := AM (bt hg hS); have GE336 := AM (bt hg hS); replace HB := AM (below_step (hS) hb); have NB320_336 := AM (nl hg (bk BK320)); have NB336_320 := AM (ng hg (bk BK320)); replace BK320 := bw BK320 hb; clear hb hbox hg; obtain ⟨Ao40, co40, eo40⟩ := Kd.R_slice HO334.out; subst eo40; have hnb41 := NB336_320.out; have hnc41 := NB320_336.out; have hcz42_0 := bv BK336 0 (.slice none 0 0); have hfz42_0 := bz BK336 0; have hcz43_0 := bv BK320 0 (.slice A0_0 l0_0.length c0_0); have hfz43_0 := bz BK320 0) | ((with_reducible refine gc 11 rfl ?_); refine goesL_ (some 47) rfl rfl Try.func11 (by kernel_rfl) rfl #[.agg #[.slice A0_0 l0_0.length c0_0]] rfl am ?_; (with_reducible refine (laws_toDisk.calls k _ _ l0_0 t337 _ ?side1 ?side2 A22.out).mono ?_); (case side1 => exact Kd.C_below HR0_0.out (hS)); (case side2 => exact HC0_0.out); rintro e w44 ⟨v338, rfl, ho0, hb⟩; refine ⟨_, rfl, ?_⟩; replace HO328 := AM (Kd.R_below (by exact (Kd.R_mono (Kd.R_far (p := ⟨gb336, 0, none⟩) (Kd.R_types HO328.out BK336.out (by decide)) (fun _ hk => hk.2) (.slice Ao40 t332.length co40)) (fun _ h_ => h_.1))) hb); replace HO331 := AM (Kd.R_below (by exact (Kd.R_mono (Kd.R_far (p := ⟨gb336, 0, none⟩) (Kd.R_types HO331.out BK336.out (by decide)) (fun _ hk => hk.2) (.slice Ao40 t332.length co40)) (fun _ h_ => h_.1))) hb); have HO339 := AM (Kd.R_lower (Kd.R_new' (Kd.R_new' ho0 (Kd.R_lt (by exact (Kd.R_mono (Kd.R_far (p := ⟨gb336, 0, none⟩) (Kd.R_types HO325.out BK336.out (by decide)) (fun _ hk => hk.2) (.slice Ao40 t332.length co40)) (fun _ h_ => h_.1))))) (Kd.R_lt (by exact (Kd.R_mono (Kd.R_far (p := ⟨gb336, 0, none⟩) (Kd.R_types HO334.out BK336.out (by decide)) (fun _ hk => hk.2) (.slice Ao40 t332.length co40)) (fun _ h_ => h_.1))))) (below_size (hS))); replace HO325 := AM (Kd.R_elder' (by exact (Kd.R_mono (Kd.R_far (p := ⟨gb336, 0, none⟩) (Kd.R_types HO325.out BK336.out (by decide)) (fun _ hk => hk.2) (.slice Ao40 t332.length co40)) (fun _ h_ => h_.1))) (Kd.R_base ho0) hb); replace HO334 := AM (Kd.R_elder' (by exact (Kd.R_mono (Kd.R_far (p := ⟨gb336, 0, none⟩) (Kd.R_types HO334.out BK336.out (by decide)) (fun _ hk => hk.2) (.slice Ao40 t332.length co40)) (fun _ h_ => h_.1))) (Kd.R_base ho0) hb); replace BK320 := AM (blk_below (g := gb320) (o := .cells #[.slice A0_0 l0_0.length c0_0] 24 (0, 0)) (be) hb); replace BK336 := AM (blk_below (g := gb336) (o := .cells #[.slice Ao40 t332.length co40] 30 (0, 0)) (by (with_reducible repeat first | apply aN | apply aD | apply aA); refine blk_put (cs := #[.slice none 0 0]) ?_ 0 _ rfl; exact bk BK336) hb); replace HB := AM (below_step (hS) hb); (try clear hb); (try clear hk); (try clear ho0)) | ((with_reducible refine gd 12 rfl ?_); refine bx (N := 12) (cs := #[.slice none 0 0]) (t := 30) ?_; intro gb340 hg w45 hbox hb; replace HO325 := AM (Kd.R_below (by exact HO325.out) hb); replace HO328 := AM (Kd.R_below (by exact HO328.out) hb); replace HO331 := AM (Kd.R_below (by exact HO331.out) hb); replace HO334 := AM (Kd.R_below (by exact HO334.out) hb); replace HO339 := AM (Kd.R_below (by exact HO339.out) hb); have BK340 := AM (hbox); have GW340 := AM (bt hg hS); have GE340 := AM (bt hg hS); replace HB := AM (below_step (hS) hb); have NB320_340 := AM (nl hg (bk BK320)); have NB340_320 := AM (ng hg (bk BK320)); replace BK320 := bw BK320 hb; have NB336_340 := AM (nl hg (bk BK336)); have NB340_336 := AM (ng hg (bk BK336)); replace BK336 := bw BK336 hb; clear hb hbox hg; obtain ⟨Ao46, co46, eo46⟩ := Kd.R_slice HO339.out; subst eo46; have hnb47 := NB340_320.out; have hnc47 := NB320_340.out; have hnb48 := NB340_336.out; have hnc48 := NB336_340.out; have hcz49_0 := bv BK340 0 (.slice none 0 0); have hfz49_0 := bz BK340 0) | ((with_reducible refine gc 24 rfl ?_); refine goesL_ (some 49) rfl rfl Try.func24 (by kernel_rfl) rfl #[.slice A1 l1.length c1] rfl am ?_; (with_reducible refine (laws_toActS.calls k _ _ l1 t341 _ ?side1 ?side2 A23.out).mono ?_); (case side1 => exact Kd.C_below HR1.out (hS)); (case side2 => exact HC1.out); rintro e w50 ⟨v342, rfl, ho0, hb⟩; refine ⟨_, rfl, ?_⟩; have n0_ := AM (Kd.R_below (by exact (Kd.R_mono (Kd.R_far (p := ⟨gb340, 0, none⟩) (Kd.R_types HO325.out BK340.out (by decide)) (fun _ hk => hk.2) (.slice Ao46 t337.length co46)) (fun _ h_ => h_.1))) hb); have n1_ := AM (Kd.R_elder' (by exact (Kd.R_mono (Kd.R_far (p := ⟨gb340, 0, none⟩) (Kd.R_types HO328.out BK340.out (by decide)) (fun _ hk => hk.2) (.slice Ao46 t337.length co46)) (fun _ h_ => h_.1))) (Kd.R_base ho0) hb); have n2_ := AM (Kd.R_below (by exact (Kd.R_mono (Kd.R_far (p := ⟨gb340, 0, none⟩) (Kd.R_types HO331.out BK340.out (by decide)) (fun _ hk => hk.2) (.slice Ao46 t337.length co46)) (fun _ h_ => h_.1))) hb); have n3_ := AM (Kd.R_below (by exact (Kd.R_mono (Kd.R_far (p := ⟨gb340, 0, none⟩) (Kd.R_types HO334.out BK340.out (by decide)) (fun _ hk => hk.2) (.slice Ao46 t337.length co46)) (fun _ h_ => h_.1))) hb); have n4_ := AM (Kd.R_below (by exact (Kd.R_mono (Kd.R_far (p := ⟨gb340, 0, none⟩) (Kd.R_types HO339.out BK340.out (by decide)) (fun _ hk => hk.2) (.slice Ao46 t337.length co46)) (fun _ h_ => h_.1))) hb); have n5_ := AM (Kd.R_lower (Kd.R_new' ho0 (Kd.R_lt (by exact (Kd.R_mono (Kd.R_far (p := ⟨gb340, 0, none⟩) (Kd.R_types HO328.out BK340.out (by decide)) (fun _ hk => hk.2) (.slice Ao46 t337.length co46)) (fun _ h_ => h_.1))))) (below_size (hS))); have n6_ := AM (blk_below (g := gb320) (o := .cells #[.slice A0_0 l0_0.length c0_0] 24 (0, 0)) (be) hb); have n7_ := AM (blk_below (g := gb336) (o := .cells #[.slice Ao40 t332.length co40] 30 (0, 0)) (be) hb); have n8_ := AM (blk_below (g := gb340) (o := .cells #[.slice Ao46 t337.length co46] 30 (0, 0)) (by (with_reducible repeat first | apply aN | apply aD | apply aA); refine blk_put (cs := #[.slice none 0 0]) ?_ 0 _ rfl; exact bk BK340) hb); have n9_ := AM (below_step (hS) hb); clear HO325; clear HO328; clear HO331; clear HO334; clear HO339; clear BK320; clear BK336; clear BK340; clear HB; have HO325 := n0_; have HO328 := n1_; have HO331 := n2_; have HO334 := n3_; have HO339 := n4_; have HO343 := n5_; have BK320 := n6_; have BK336 := n7_; have BK340 := n8_; have HB := n9_; clear n0_ n1_ n2_ n3_ n4_ n5_ n6_ n7_ n8_ n9_; (try clear hb); (try clear hk); (try clear ho0)) | ((with_reducible refine gc 29 rfl ?_); refine goesL_ (some 51) rfl rfl Try.func29 (by kernel_rfl) rfl #[.slice A3 l3.length c3] rfl am ?_; (with_reducible refine (laws_toIntS.calls k _ _ l3 t344 _ ?side1 ?side2 A24.out).mono ?_); (case side1 => repeat (first | exact (Kd.C_below HR3.out HB.out) | (with_reducible first | refine cA ?_ _ | refine cN ?_ _ | refine cD ?_))); (case side2 => exact HC3.out); rintro e w51 ⟨v345, rfl, ho0, hb⟩; refine ⟨_, rfl, ?_⟩; replace HO325 := AM (Kd.R_below (by exact HO325.out) hb); replace HO328 := AM (Kd.R_below (by exact HO328.out) hb); replace HO334 := AM (Kd.R_below (by exact HO334.out) hb); replace HO339 := AM (Kd.R_below (by exact HO339.out) hb); replace HO343 := AM (Kd.R_below (by exact HO343.out) hb); have HO346 := AM (Kd.R_lower (Kd.R_new' ho0 (Kd.R_lt (by exact HO331.out))) (below_size (hS))); replace HO331 := AM (Kd.R_elder' (by exact HO331.out) (Kd.R_base ho0) hb); replace BK320 := bw BK320 hb; replace BK336 := bw BK336 hb; replace BK340 := bw BK340 hb; replace HB := AM (below_step (hS) hb); (try clear hb); (try clear ho0); have hcz52_0 := bv BK340 0 (.slice Ao46 t337.length co46); have hfz52_0 := bz BK340 0; obtain ⟨Ao53, co53, eo53⟩ := Kd.R_slice HO343.out; subst eo53; obtain ⟨Ao54, co54, eo54⟩ := Kd.R_slice HO346.out; subst eo54) | ((with_reducible refine gc 30 rfl ?_); refine goesL_ (some 57) rfl rfl Try.func30 (by kernel_rfl) rfl #[.agg #[.slice Ao46 t337.length co46], .slice Ao53 t341.length co53, .int .i64 a2, .slice Ao54 t344.length co54] rfl am ?_; (with_reducible refine (impl_CutActs.calls k _ _ t337 _ _ t341 a2 _ _ t344 t347 t350 _ ?side1 ?side2 ?side3 ?side4 ?side5 ?side6 A25.out).mono ?_); (case side1 => repeat (first | exact (Kd.R_reads' HO339.out).2.2 | (with_reducible first | refine cA ?_ _ | refine cN ?_ _ | refine cD ?_))); (case side2 => exact (Kd.R_reads' HO339.out).2.1); (case side3 => repeat (first | exact (Kd.R_reads' HO343.out).2.2 | (with_reducible first | refine cA ?_ _ | refine cN ?_ _ | refine cD ?_))); (case side4 => exact (Kd.R_reads' HO343.out).2.1); (case side5 => repeat (first | exact (Kd.R_reads' HO346.out).2.2 | (with_reducible first | refine cA ?_ _ | refine cN ?_ _ | refine cD ?_))); (case side6 => exact (Kd.R_reads' HO346.out).2.1); rintro e w55 ⟨v348, rfl, ho0, hb⟩; refine ⟨_, rfl, ?_⟩; replace HO328 := AM (Kd.R_below (by exact HO328.out) hb); replace HO331 := AM (Kd.R_below (by exact HO331.out) hb); replace HO343 := AM (Kd.R_below (by exact HO343.out) hb); replace HO346 := AM (Kd.R_below (by exact HO346.out) hb); have HO349 := AM (Kd.R_lower (Kd.R_new' (Kd.R_new' (Kd.R_new' ho0 (Kd.R_lt (by exact HO325.out))) (Kd.R_lt (by exact HO334.out))) (Kd.R_lt (by exact HO339.out))) (below_size (hS))); replace HO325 := AM (Kd.R_elder' (by exact HO325.out) (Kd.R_base ho0) hb); replace HO334 := AM (Kd.R_elder' (by exact HO334.out) (Kd.R_base ho0) hb); replace HO339 := AM (Kd.R_elder' (by exact HO339.out) (Kd.R_base ho0) hb); replace BK320 := bw BK320 hb; replace BK336 := bw BK336 hb; replace BK340 := bw BK340 hb; replace HB := AM (below_step (hS) hb); (try clear hb); (try clear ho0)) | ((with_reducible refine gd 15 rfl ?_); refine bx (N := 15) (cs := #[.slice none 0 0]) (t := 30) ?_; intro gb351 hg w56 hbox hb; replace HO325 := AM (Kd.R_below (by exact HO325.out) hb); replace HO328 := AM (Kd.R_below (by exact HO328.out) hb); replace HO331 := AM (Kd.R_below (by exact HO331.out) hb); replace HO334 := AM (Kd.R_below (by exact HO334.out) hb); replace HO339 := AM (Kd.R_below (by exact HO339.out) hb); replace HO343 := AM (Kd.R_below (by exact HO343.out) hb); replace HO346 := AM (Kd.R_below (by exact HO346.out) hb); replace HO349 := AM (Kd.R_below (by exact HO349.out) hb); have BK351 := AM (hbox); have GW351 := AM (bt hg hS); have GE351 := AM (bt hg hS); replace HB := AM (below_step (hS) hb); have NB320_351 := AM (nl hg (bk BK320)); have NB351_320 := AM (ng hg (bk BK320)); replace BK320 := bw BK320 hb; have NB336_351 := AM (nl hg (bk BK336)); have NB351_336 := AM (ng hg (bk BK336)); replace BK336 := bw BK336 hb; have NB340_351 := AM (nl hg (bk BK340)); have NB351_340 := AM (ng hg (bk BK340)); replace BK340 := bw BK340 hb; clear hb hbox hg; obtain ⟨Ao57, co57, eo57⟩ := Kd.R_slice HO349.out; subst eo57; have hnb58 := NB351_320.out; have hnc58 := NB320_351.out; have hnb59 := NB351_336.out; have hnc59 := NB336_351.out; have hnb60 := NB351_340.out; have hnc60 := NB340_351.out; have hcz61_0 := bv BK351 0 (.slice none 0 0); have hfz61_0 := bz BK351 0))
 (try simp only [Act.put, qT, q0, qS])
 go_cut [68] (fun v68 wc => ∃ (kq : Nat) (x68_25 : Bool), v68 = .bool x68_25 ∧ Aside0 (laws_FnExactCutActs.j0 kq l1 a2 l3 t335 t341 t344 t350 x68_25 l0_0 t332 t337 t347 = some r) ∧ Aside0 (kq ≤ k) ∧ Aside0 (Kd.R k41 41 wc w.heap.size (fun _ => True) (.slice Ao53 t341.length co53) t341) ∧ Aside0 (Kd.R (Kd.int .i64) 3 wc w.heap.size (fun _ => True) (.slice Ao54 t344.length co54) t344) ∧ Aside0 (Kd.R k67 67 wc w.heap.size (fun k_ => some k_ ≠ ((.slice Ao46 t337.length co46) : Value).ownBlock ∧ some k_ ≠ ((.slice Ao57 t347.length co57) : Value).ownBlock) (.slice Ao40 t332.length co40) t332) ∧ Aside0 (Kd.R k67 67 wc w.heap.size (fun k_ => some k_ ≠ ((.slice Ao40 t332.length co40) : Value).ownBlock ∧ some k_ ≠ ((.slice Ao57 t347.length co57) : Value).ownBlock) (.slice Ao46 t337.length co46) t337) ∧ Aside0 (Kd.R k67 67 wc w.heap.size (fun k_ => some k_ ≠ ((.slice Ao40 t332.length co40) : Value).ownBlock ∧ some k_ ≠ ((.slice Ao46 t337.length co46) : Value).ownBlock) (.slice Ao57 t347.length co57) t347) ∧ Aside0 (wc.heap[gb320]? = some (.cells #[(.slice A0_0 l0_0.length c0_0)] 24 (0, 0))) ∧ Aside0 (wc.heap[gb336]? = some (.cells #[(.slice Ao40 t332.length co40)] 30 (0, 0))) ∧ Aside0 (wc.heap[gb340]? = some (.cells #[(.slice Ao46 t337.length co46)] 30 (0, 0))) ∧ Aside0 (wc.heap[gb351]? = some (.cells #[(.slice Ao57 t347.length co57)] 30 (0, 0))) ∧ Aside0 (Below w.heap.size w wc))
 case first =>
  have H := HC26.out
  clear HC26
  replace H := bm H
  obtain ⟨t352, A620, H⟩ := H
  replace H : (if t352 = true then (laws_FnExactCutActs.j0 k l1 a2 l3 t335 t341 t344 t350 (t350 != t335) l0_0 t332 t337 t347) else (laws_FnExactCutActs.j0 k l1 a2 l3 t335 t341 t344 t350 true l0_0 t332 t337 t347)) = some r := H
  have A62 := AM A620
  clear A620
  by_cases c63 : t352 = true
  ·subst c63
   have H1 : (laws_FnExactCutActs.j0 k l1 a2 l3 t335 t341 t344 t350 (t350 != t335) l0_0 t332 t337 t347) = some r := by rw [if_pos rfl] at H; exact H
   clear H
   have H := H1
   clear H1
   have H' := AM H
   clear H
   have hnb64 := NB351_320.out
   have hnc64 := NB320_351.out
   have hnb65 := NB351_336.out
   have hnc65 := NB336_351.out
   have hnb66 := NB351_340.out
   have hnc66 := NB340_351.out
   have hcz67_0 := bv BK351 0 (.slice none 0 0)
   have hfz67_0 := bz BK351 0
   have hnb68 := NB336_320.out
   have hnc68 := NB320_336.out
   have hnb69 := NB336_340.out
   have hnc69 := NB340_336.out
   have hcz70_0 := bv BK336 0 (.slice Ao40 t332.length co40)
   have hfz70_0 := bz BK336 0
   go_wp2_with (first | ((with_reducible refine gc 13 rfl ?_); refine goesL_ (some 62) rfl rfl Try.func13 (by kernel_rfl) rfl #[.agg #[.slice Ao57 t347.length co57], .agg #[.slice Ao40 t332.length co40]] rfl am ?_; (with_reducible refine (laws_eqDisk.calls k _ _ t347 _ _ t332 true _ ?side1 ?side2 ?side3 ?side4 A62.out).mono ?_); (case side1 => refine (Kd.R_reads' (e := 67) (base := w.heap.size) (ok := fun k_ => (((True ∧ some k_ ≠ (.slice Ao35 t323.length co35 : Value).ownBlock) ∧ some k_ ≠ (.slice Ao40 t332.length co40 : Value).ownBlock) ∧ some k_ ≠ (.slice Ao46 t337.length co46 : Value).ownBlock)) (n := t347.length) (c := co57) ?_).2.2; exact (by exact (Kd.R_mono (Kd.R_far (p := ⟨gb351, 0, none⟩) (Kd.R_types HO349.out BK351.out (by decide)) (fun _ hk => hk.2) (.slice Ao57 t347.length co57)) (fun _ h_ => h_.1)))); (case side2 => exact (Kd.R_reads' HO349.out).2.1); (case side3 => refine (Kd.R_reads' (e := 67) (base := w.heap.size) (ok := fun k_ => (((True ∧ some k_ ≠ (.slice Ao35 t323.length co35 : Value).ownBlock) ∧ some k_ ≠ (.slice Ao46 t337.length co46 : Value).ownBlock) ∧ some k_ ≠ (.slice Ao57 t347.length co57 : Value).ownBlock)) (n := t332.length) (c := co40) ?_).2.2; exact (by exact (Kd.R_mono (Kd.R_far (p := ⟨gb351, 0, none⟩) (Kd.R_types HO334.out BK351.out (by decide)) (fun _ hk => hk.2) (.slice Ao57 t347.length co57)) (fun _ h_ => h_.1)))); (case side4 => exact (Kd.R_reads' HO334.out).2.1); rintro e w71 ⟨rfl, hb⟩; refine ⟨_, rfl, ?_⟩; have n0_ := AM (Kd.R_below (by exact (Kd.R_mono (Kd.R_far (p := ⟨gb351, 0, none⟩) (Kd.R_types HO325.out BK351.out (by decide)) (fun _ hk => hk.2) (.slice Ao57 t347.length co57)) (fun _ h_ => h_.1))) hb); have n1_ := AM (Kd.R_below (by exact (Kd.R_mono (Kd.R_far (p := ⟨gb351, 0, none⟩) (Kd.R_types HO328.out BK351.out (by decide)) (fun _ hk => hk.2) (.slice Ao57 t347.length co57)) (fun _ h_ => h_.1))) hb); have n2_ := AM (Kd.R_below (by exact (Kd.R_mono (Kd.R_far (p := ⟨gb351, 0, none⟩) (Kd.R_types HO331.out BK351.out (by decide)) (fun _ hk => hk.2) (.slice Ao57 t347.length co57)) (fun _ h_ => h_.1))) hb); have n3_ := AM (Kd.R_below (by exact (Kd.R_mono (Kd.R_far (p := ⟨gb351, 0, none⟩) (Kd.R_types HO334.out BK351.out (by decide)) (fun _ hk => hk.2) (.slice Ao57 t347.length co57)) (fun _ h_ => h_.1))) hb); have n4_ := AM (Kd.R_below (by exact (Kd.R_mono (Kd.R_far (p := ⟨gb351, 0, none⟩) (Kd.R_types HO339.out BK351.out (by decide)) (fun _ hk => hk.2) (.slice Ao57 t347.length co57)) (fun _ h_ => h_.1))) hb); have n5_ := AM (Kd.R_below (by exact (Kd.R_mono (Kd.R_far (p := ⟨gb351, 0, none⟩) (Kd.R_types HO343.out BK351.out (by decide)) (fun _ hk => hk.2) (.slice Ao57 t347.length co57)) (fun _ h_ => h_.1))) hb); have n6_ := AM (Kd.R_below (by exact (Kd.R_mono (Kd.R_far (p := ⟨gb351, 0, none⟩) (Kd.R_types HO346.out BK351.out (by decide)) (fun _ hk => hk.2) (.slice Ao57 t347.length co57)) (fun _ h_ => h_.1))) hb); have n7_ := AM (Kd.R_below (by exact (Kd.R_mono (Kd.R_far (p := ⟨gb351, 0, none⟩) (Kd.R_types HO349.out BK351.out (by decide)) (fun _ hk => hk.2) (.slice Ao57 t347.length co57)) (fun _ h_ => h_.1))) hb); have n8_ := AM (blk_below (g := gb320) (o := .cells #[.slice A0_0 l0_0.length c0_0] 24 (0, 0)) (be) hb); have n9_ := AM (blk_below (g := gb336) (o := .cells #[.slice Ao40 t332.length co40] 30 (0, 0)) (be) hb); have n10_ := AM (blk_below (g := gb340) (o := .cells #[.slice Ao46 t337.length co46] 30 (0, 0)) (be) hb); have n11_ := AM (blk_below (g := gb351) (o := .cells #[.slice Ao57 t347.length co57] 30 (0, 0)) (by (with_reducible repeat first | apply aN | apply aD | apply aA); refine blk_put (cs := #[.slice none 0 0]) ?_ 0 _ rfl; exact bk BK351) hb); have n12_ := AM (below_step (hS) hb); clear HO325; clear HO328; clear HO331; clear HO334; clear HO339; clear HO343; clear HO346; clear HO349; clear BK320; clear BK336; clear BK340; clear BK351; clear HB; have HO325 := n0_; have HO328 := n1_; have HO331 := n2_; have HO334 := n3_; have HO339 := n4_; have HO343 := n5_; have HO346 := n6_; have HO349 := n7_; have BK320 := n8_; have BK336 := n9_; have BK340 := n10_; have BK351 := n11_; have HB := n12_; clear n0_ n1_ n2_ n3_ n4_ n5_ n6_ n7_ n8_ n9_ n10_ n11_ n12_; (try clear hb); (try clear hk)))
   go_meet
   case rel => exact ⟨_, ((t350 != t335)), sf, H', ⟨by first | omega | exact Nat.le_refl _⟩, ⟨by exact Kd.R_mono HO343.out (fun _ hk => trivial)⟩, ⟨by exact Kd.R_mono HO346.out (fun _ hk => trivial)⟩, ⟨by exact Kd.R_mono HO334.out (fun _ hk => ⟨hk.1.2, hk.2⟩)⟩, ⟨by exact Kd.R_mono HO339.out (fun _ hk => ⟨hk.1.2, hk.2⟩)⟩, ⟨by exact Kd.R_mono HO349.out (fun _ hk => ⟨hk.1.2, hk.2⟩)⟩, ⟨bk BK320⟩, ⟨bk BK336⟩, ⟨bk BK340⟩, ⟨bk BK351⟩, ⟨hS⟩⟩
  replace c63 := Bool.eq_false_iff.mpr c63
  subst c63
  have H1 : (laws_FnExactCutActs.j0 k l1 a2 l3 t335 t341 t344 t350 true l0_0 t332 t337 t347) = some r := by rw [if_neg (show ¬ (false = true) by decide)] at H; exact H
  clear H
  have H := H1
  clear H1
  have H' := AM H
  clear H
  have hnb72 := NB351_320.out
  have hnc72 := NB320_351.out
  have hnb73 := NB351_336.out
  have hnc73 := NB336_351.out
  have hnb74 := NB351_340.out
  have hnc74 := NB340_351.out
  have hcz75_0 := bv BK351 0 (.slice none 0 0)
  have hfz75_0 := bz BK351 0
  have hnb76 := NB336_320.out
  have hnc76 := NB320_336.out
  have hnb77 := NB336_340.out
  have hnc77 := NB340_336.out
  have hcz78_0 := bv BK336 0 (.slice Ao40 t332.length co40)
  have hfz78_0 := bz BK336 0
  go_wp2_with (first | ((with_reducible refine gc 13 rfl ?_); refine goesL_ (some 62) rfl rfl Try.func13 (by kernel_rfl) rfl #[.agg #[.slice Ao57 t347.length co57], .agg #[.slice Ao40 t332.length co40]] rfl am ?_; (with_reducible refine (laws_eqDisk.calls k _ _ t347 _ _ t332 false _ ?side1 ?side2 ?side3 ?side4 A62.out).mono ?_); (case side1 => refine (Kd.R_reads' (e := 67) (base := w.heap.size) (ok := fun k_ => (((True ∧ some k_ ≠ (.slice Ao35 t323.length co35 : Value).ownBlock) ∧ some k_ ≠ (.slice Ao40 t332.length co40 : Value).ownBlock) ∧ some k_ ≠ (.slice Ao46 t337.length co46 : Value).ownBlock)) (n := t347.length) (c := co57) ?_).2.2; exact (by exact (Kd.R_mono (Kd.R_far (p := ⟨gb351, 0, none⟩) (Kd.R_types HO349.out BK351.out (by decide)) (fun _ hk => hk.2) (.slice Ao57 t347.length co57)) (fun _ h_ => h_.1)))); (case side2 => exact (Kd.R_reads' HO349.out).2.1); (case side3 => refine (Kd.R_reads' (e := 67) (base := w.heap.size) (ok := fun k_ => (((True ∧ some k_ ≠ (.slice Ao35 t323.length co35 : Value).ownBlock) ∧ some k_ ≠ (.slice Ao46 t337.length co46 : Value).ownBlock) ∧ some k_ ≠ (.slice Ao57 t347.length co57 : Value).ownBlock)) (n := t332.length) (c := co40) ?_).2.2; exact (by exact (Kd.R_mono (Kd.R_far (p := ⟨gb351, 0, none⟩) (Kd.R_types HO334.out BK351.out (by decide)) (fun _ hk => hk.2) (.slice Ao57 t347.length co57)) (fun _ h_ => h_.1)))); (case side4 => exact (Kd.R_reads' HO334.out).2.1); rintro e w79 ⟨rfl, hb⟩; refine ⟨_, rfl, ?_⟩; have n0_ := AM (Kd.R_below (by exact (Kd.R_mono (Kd.R_far (p := ⟨gb351, 0, none⟩) (Kd.R_types HO325.out BK351.out (by decide)) (fun _ hk => hk.2) (.slice Ao57 t347.length co57)) (fun _ h_ => h_.1))) hb); have n1_ := AM (Kd.R_below (by exact (Kd.R_mono (Kd.R_far (p := ⟨gb351, 0, none⟩) (Kd.R_types HO328.out BK351.out (by decide)) (fun _ hk => hk.2) (.slice Ao57 t347.length co57)) (fun _ h_ => h_.1))) hb); have n2_ := AM (Kd.R_below (by exact (Kd.R_mono (Kd.R_far (p := ⟨gb351, 0, none⟩) (Kd.R_types HO331.out BK351.out (by decide)) (fun _ hk => hk.2) (.slice Ao57 t347.length co57)) (fun _ h_ => h_.1))) hb); have n3_ := AM (Kd.R_below (by exact (Kd.R_mono (Kd.R_far (p := ⟨gb351, 0, none⟩) (Kd.R_types HO334.out BK351.out (by decide)) (fun _ hk => hk.2) (.slice Ao57 t347.length co57)) (fun _ h_ => h_.1))) hb); have n4_ := AM (Kd.R_below (by exact (Kd.R_mono (Kd.R_far (p := ⟨gb351, 0, none⟩) (Kd.R_types HO339.out BK351.out (by decide)) (fun _ hk => hk.2) (.slice Ao57 t347.length co57)) (fun _ h_ => h_.1))) hb); have n5_ := AM (Kd.R_below (by exact (Kd.R_mono (Kd.R_far (p := ⟨gb351, 0, none⟩) (Kd.R_types HO343.out BK351.out (by decide)) (fun _ hk => hk.2) (.slice Ao57 t347.length co57)) (fun _ h_ => h_.1))) hb); have n6_ := AM (Kd.R_below (by exact (Kd.R_mono (Kd.R_far (p := ⟨gb351, 0, none⟩) (Kd.R_types HO346.out BK351.out (by decide)) (fun _ hk => hk.2) (.slice Ao57 t347.length co57)) (fun _ h_ => h_.1))) hb); have n7_ := AM (Kd.R_below (by exact (Kd.R_mono (Kd.R_far (p := ⟨gb351, 0, none⟩) (Kd.R_types HO349.out BK351.out (by decide)) (fun _ hk => hk.2) (.slice Ao57 t347.length co57)) (fun _ h_ => h_.1))) hb); have n8_ := AM (blk_below (g := gb320) (o := .cells #[.slice A0_0 l0_0.length c0_0] 24 (0, 0)) (be) hb); have n9_ := AM (blk_below (g := gb336) (o := .cells #[.slice Ao40 t332.length co40] 30 (0, 0)) (be) hb); have n10_ := AM (blk_below (g := gb340) (o := .cells #[.slice Ao46 t337.length co46] 30 (0, 0)) (be) hb); have n11_ := AM (blk_below (g := gb351) (o := .cells #[.slice Ao57 t347.length co57] 30 (0, 0)) (by (with_reducible repeat first | apply aN | apply aD | apply aA); refine blk_put (cs := #[.slice none 0 0]) ?_ 0 _ rfl; exact bk BK351) hb); have n12_ := AM (below_step (hS) hb); clear HO325; clear HO328; clear HO331; clear HO334; clear HO339; clear HO343; clear HO346; clear HO349; clear BK320; clear BK336; clear BK340; clear BK351; clear HB; have HO325 := n0_; have HO328 := n1_; have HO331 := n2_; have HO334 := n3_; have HO339 := n4_; have HO343 := n5_; have HO346 := n6_; have HO349 := n7_; have BK320 := n8_; have BK336 := n9_; have BK340 := n10_; have BK351 := n11_; have HB := n12_; clear n0_ n1_ n2_ n3_ n4_ n5_ n6_ n7_ n8_ n9_ n10_ n11_ n12_; (try clear hb); (try clear hb2); (try clear hk); (try clear hi)))
  go_meet
  case rel => exact ⟨_, (true), sf, H', ⟨by first | omega | exact Nat.le_refl _⟩, ⟨by exact Kd.R_mono HO343.out (fun _ hk => trivial)⟩, ⟨by exact Kd.R_mono HO346.out (fun _ hk => trivial)⟩, ⟨by exact Kd.R_mono HO334.out (fun _ hk => ⟨hk.1.2, hk.2⟩)⟩, ⟨by exact Kd.R_mono HO339.out (fun _ hk => ⟨hk.1.2, hk.2⟩)⟩, ⟨by exact Kd.R_mono HO349.out (fun _ hk => ⟨hk.1.2, hk.2⟩)⟩, ⟨bk BK320⟩, ⟨bk BK336⟩, ⟨bk BK340⟩, ⟨bk BK351⟩, ⟨hS⟩⟩
 case rest =>
  clear HC26
  obtain ⟨kq, x68_25, rfl, HA, HJ25, HO_13, HO_14, HO_337000, HO_341000, HO_352000, BK320, BK336, BK340, BK351, HB⟩ := hcut
  cases kq with
  | zero => exact absurd HA.out (by simp [laws_FnExactCutActs.j0])
  | succ kj25 =>
   have H := HA.out
   clear HA
   simp only [laws_FnExactCutActs.j0] at H
   by_cases c80 : x68_25 = true
   ·subst c80
    have H1 : (some false) = some r := by rw [if_pos rfl] at H; exact H
    clear H
    have H := H1
    clear H1
    exact absurd ((Option.some.inj H).trans hT.out) (by decide)
   replace c80 := Bool.eq_false_iff.mpr c80
   subst c80
   have H1 : ((laws_toDisk.f kj25 l0_0).bind fun t353 => ((laws_eqDisk.f kj25 t337 t353).bind fun t356 => (if t356 = true then ((laws_toActS.f kj25 l1).bind fun t357 => ((laws_eqActS.f kj25 t341 t357).bind fun t360 => (if t360 = true then ((laws_toIntS.f kj25 l3).bind fun t361 => ((laws_eqIntS.f kj25 t344 t361).bind fun t364 => (if t364 = true then ((laws_markDisk.f kj25 t337 1).bind fun bt365 => ((laws_markActS.f kj25 t341 bt365.1).bind fun bt367 => ((laws_markIntS.f kj25 t344 bt367.1).bind fun bt369 => (if bt369.1 < 0 then (laws_FnExactCutActs.j1 kj25 l1 a2 l3 t335 true l0_0 t332 t347) else ((laws_eqDisk.f kj25 t347 t332).bind fun t371 => (if t371 = true then (laws_FnExactCutActs.j1 kj25 l1 a2 l3 t335 (t350 != t335) l0_0 t332 t347) else (laws_FnExactCutActs.j1 kj25 l1 a2 l3 t335 true l0_0 t332 t347))))))) else (some false)))) else (some false)))) else (some false)))) = some r := by rw [if_neg (show ¬ (false = true) by decide)] at H; exact H
   clear H
   have H := H1
   clear H1
   replace H := bm H
   obtain ⟨t353, A810, H⟩ := H
   replace H : ((laws_eqDisk.f kj25 t337 t353).bind fun t356 => (if t356 = true then ((laws_toActS.f kj25 l1).bind fun t357 => ((laws_eqActS.f kj25 t341 t357).bind fun t360 => (if t360 = true then ((laws_toIntS.f kj25 l3).bind fun t361 => ((laws_eqIntS.f kj25 t344 t361).bind fun t364 => (if t364 = true then ((laws_markDisk.f kj25 t337 1).bind fun bt365 => ((laws_markActS.f kj25 t341 bt365.1).bind fun bt367 => ((laws_markIntS.f kj25 t344 bt367.1).bind fun bt369 => (if bt369.1 < 0 then (laws_FnExactCutActs.j1 kj25 l1 a2 l3 t335 true l0_0 t332 t347) else ((laws_eqDisk.f kj25 t347 t332).bind fun t371 => (if t371 = true then (laws_FnExactCutActs.j1 kj25 l1 a2 l3 t335 (t350 != t335) l0_0 t332 t347) else (laws_FnExactCutActs.j1 kj25 l1 a2 l3 t335 true l0_0 t332 t347))))))) else (some false)))) else (some false)))) else (some false))) = some r := H
   have A81 := AM A810
   clear A810
   replace H := bm H
   obtain ⟨t356, A820, H⟩ := H
   replace H : (if t356 = true then ((laws_toActS.f kj25 l1).bind fun t357 => ((laws_eqActS.f kj25 t341 t357).bind fun t360 => (if t360 = true then ((laws_toIntS.f kj25 l3).bind fun t361 => ((laws_eqIntS.f kj25 t344 t361).bind fun t364 => (if t364 = true then ((laws_markDisk.f kj25 t337 1).bind fun bt365 => ((laws_markActS.f kj25 t341 bt365.1).bind fun bt367 => ((laws_markIntS.f kj25 t344 bt367.1).bind fun bt369 => (if bt369.1 < 0 then (laws_FnExactCutActs.j1 kj25 l1 a2 l3 t335 true l0_0 t332 t347) else ((laws_eqDisk.f kj25 t347 t332).bind fun t371 => (if t371 = true then (laws_FnExactCutActs.j1 kj25 l1 a2 l3 t335 (t350 != t335) l0_0 t332 t347) else (laws_FnExactCutActs.j1 kj25 l1 a2 l3 t335 true l0_0 t332 t347))))))) else (some false)))) else (some false)))) else (some false)) = some r := H
   have A82 := AM A820
   clear A820
   by_cases c83 : t356 = true
   ·subst c83
    have H1 : ((laws_toActS.f kj25 l1).bind fun t357 => ((laws_eqActS.f kj25 t341 t357).bind fun t360 => (if t360 = true then ((laws_toIntS.f kj25 l3).bind fun t361 => ((laws_eqIntS.f kj25 t344 t361).bind fun t364 => (if t364 = true then ((laws_markDisk.f kj25 t337 1).bind fun bt365 => ((laws_markActS.f kj25 t341 bt365.1).bind fun bt367 => ((laws_markIntS.f kj25 t344 bt367.1).bind fun bt369 => (if bt369.1 < 0 then (laws_FnExactCutActs.j1 kj25 l1 a2 l3 t335 true l0_0 t332 t347) else ((laws_eqDisk.f kj25 t347 t332).bind fun t371 => (if t371 = true then (laws_FnExactCutActs.j1 kj25 l1 a2 l3 t335 (t350 != t335) l0_0 t332 t347) else (laws_FnExactCutActs.j1 kj25 l1 a2 l3 t335 true l0_0 t332 t347))))))) else (some false)))) else (some false)))) = some r := by rw [if_pos rfl] at H; exact H
    clear H
    have H := H1
    clear H1
    replace H := bm H
    obtain ⟨t357, A840, H⟩ := H
    replace H : ((laws_eqActS.f kj25 t341 t357).bind fun t360 => (if t360 = true then ((laws_toIntS.f kj25 l3).bind fun t361 => ((laws_eqIntS.f kj25 t344 t361).bind fun t364 => (if t364 = true then ((laws_markDisk.f kj25 t337 1).bind fun bt365 => ((laws_markActS.f kj25 t341 bt365.1).bind fun bt367 => ((laws_markIntS.f kj25 t344 bt367.1).bind fun bt369 => (if bt369.1 < 0 then (laws_FnExactCutActs.j1 kj25 l1 a2 l3 t335 true l0_0 t332 t347) else ((laws_eqDisk.f kj25 t347 t332).bind fun t371 => (if t371 = true then (laws_FnExactCutActs.j1 kj25 l1 a2 l3 t335 (t350 != t335) l0_0 t332 t347) else (laws_FnExactCutActs.j1 kj25 l1 a2 l3 t335 true l0_0 t332 t347))))))) else (some false)))) else (some false))) = some r := H
    have A84 := AM A840
    clear A840
    replace H := bm H
    obtain ⟨t360, A850, H⟩ := H
    replace H : (if t360 = true then ((laws_toIntS.f kj25 l3).bind fun t361 => ((laws_eqIntS.f kj25 t344 t361).bind fun t364 => (if t364 = true then ((laws_markDisk.f kj25 t337 1).bind fun bt365 => ((laws_markActS.f kj25 t341 bt365.1).bind fun bt367 => ((laws_markIntS.f kj25 t344 bt367.1).bind fun bt369 => (if bt369.1 < 0 then (laws_FnExactCutActs.j1 kj25 l1 a2 l3 t335 true l0_0 t332 t347) else ((laws_eqDisk.f kj25 t347 t332).bind fun t371 => (if t371 = true then (laws_FnExactCutActs.j1 kj25 l1 a2 l3 t335 (t350 != t335) l0_0 t332 t347) else (laws_FnExactCutActs.j1 kj25 l1 a2 l3 t335 true l0_0 t332 t347))))))) else (some false)))) else (some false)) = some r := H
    have A85 := AM A850
    clear A850
    by_cases c86 : t360 = true
    ·subst c86
     have H1 : ((laws_toIntS.f kj25 l3).bind fun t361 => ((laws_eqIntS.f kj25 t344 t361).bind fun t364 => (if t364 = true then ((laws_markDisk.f kj25 t337 1).bind fun bt365 => ((laws_markActS.f kj25 t341 bt365.1).bind fun bt367 => ((laws_markIntS.f kj25 t344 bt367.1).bind fun bt369 => (if bt369.1 < 0 then (laws_FnExactCutActs.j1 kj25 l1 a2 l3 t335 true l0_0 t332 t347) else ((laws_eqDisk.f kj25 t347 t332).bind fun t371 => (if t371 = true then (laws_FnExactCutActs.j1 kj25 l1 a2 l3 t335 (t350 != t335) l0_0 t332 t347) else (laws_FnExactCutActs.j1 kj25 l1 a2 l3 t335 true l0_0 t332 t347))))))) else (some false)))) = some r := by rw [if_pos rfl] at H; exact H
     clear H
     have H := H1
     clear H1
     replace H := bm H
     obtain ⟨t361, A870, H⟩ := H
     replace H : ((laws_eqIntS.f kj25 t344 t361).bind fun t364 => (if t364 = true then ((laws_markDisk.f kj25 t337 1).bind fun bt365 => ((laws_markActS.f kj25 t341 bt365.1).bind fun bt367 => ((laws_markIntS.f kj25 t344 bt367.1).bind fun bt369 => (if bt369.1 < 0 then (laws_FnExactCutActs.j1 kj25 l1 a2 l3 t335 true l0_0 t332 t347) else ((laws_eqDisk.f kj25 t347 t332).bind fun t371 => (if t371 = true then (laws_FnExactCutActs.j1 kj25 l1 a2 l3 t335 (t350 != t335) l0_0 t332 t347) else (laws_FnExactCutActs.j1 kj25 l1 a2 l3 t335 true l0_0 t332 t347))))))) else (some false))) = some r := H
     have A87 := AM A870
     clear A870
     replace H := bm H
     obtain ⟨t364, A880, H⟩ := H
     replace H : (if t364 = true then ((laws_markDisk.f kj25 t337 1).bind fun bt365 => ((laws_markActS.f kj25 t341 bt365.1).bind fun bt367 => ((laws_markIntS.f kj25 t344 bt367.1).bind fun bt369 => (if bt369.1 < 0 then (laws_FnExactCutActs.j1 kj25 l1 a2 l3 t335 true l0_0 t332 t347) else ((laws_eqDisk.f kj25 t347 t332).bind fun t371 => (if t371 = true then (laws_FnExactCutActs.j1 kj25 l1 a2 l3 t335 (t350 != t335) l0_0 t332 t347) else (laws_FnExactCutActs.j1 kj25 l1 a2 l3 t335 true l0_0 t332 t347))))))) else (some false)) = some r := H
     have A88 := AM A880
     clear A880
     by_cases c89 : t364 = true
     ·subst c89
      have H1 : ((laws_markDisk.f kj25 t337 1).bind fun bt365 => ((laws_markActS.f kj25 t341 bt365.1).bind fun bt367 => ((laws_markIntS.f kj25 t344 bt367.1).bind fun bt369 => (if bt369.1 < 0 then (laws_FnExactCutActs.j1 kj25 l1 a2 l3 t335 true l0_0 t332 t347) else ((laws_eqDisk.f kj25 t347 t332).bind fun t371 => (if t371 = true then (laws_FnExactCutActs.j1 kj25 l1 a2 l3 t335 (t350 != t335) l0_0 t332 t347) else (laws_FnExactCutActs.j1 kj25 l1 a2 l3 t335 true l0_0 t332 t347))))))) = some r := by rw [if_pos rfl] at H; exact H
      clear H
      have H := H1
      clear H1
      replace H := bm H
      obtain ⟨⟨t365, t366⟩, A900, H⟩ := H
      replace H : ((laws_markActS.f kj25 t341 t365).bind fun bt367 => ((laws_markIntS.f kj25 t344 bt367.1).bind fun bt369 => (if bt369.1 < 0 then (laws_FnExactCutActs.j1 kj25 l1 a2 l3 t335 true l0_0 t332 t347) else ((laws_eqDisk.f kj25 t347 t332).bind fun t371 => (if t371 = true then (laws_FnExactCutActs.j1 kj25 l1 a2 l3 t335 (t350 != t335) l0_0 t332 t347) else (laws_FnExactCutActs.j1 kj25 l1 a2 l3 t335 true l0_0 t332 t347)))))) = some r := H
      have A90 := AM A900
      clear A900
      replace H := bm H
      obtain ⟨⟨t367, t368⟩, A910, H⟩ := H
      replace H : ((laws_markIntS.f kj25 t344 t367).bind fun bt369 => (if bt369.1 < 0 then (laws_FnExactCutActs.j1 kj25 l1 a2 l3 t335 true l0_0 t332 t347) else ((laws_eqDisk.f kj25 t347 t332).bind fun t371 => (if t371 = true then (laws_FnExactCutActs.j1 kj25 l1 a2 l3 t335 (t350 != t335) l0_0 t332 t347) else (laws_FnExactCutActs.j1 kj25 l1 a2 l3 t335 true l0_0 t332 t347))))) = some r := H
      have A91 := AM A910
      clear A910
      replace H := bm H
      obtain ⟨⟨t369, t370⟩, A920, H⟩ := H
      replace H : (if t369 < 0 then (laws_FnExactCutActs.j1 kj25 l1 a2 l3 t335 true l0_0 t332 t347) else ((laws_eqDisk.f kj25 t347 t332).bind fun t371 => (if t371 = true then (laws_FnExactCutActs.j1 kj25 l1 a2 l3 t335 (t350 != t335) l0_0 t332 t347) else (laws_FnExactCutActs.j1 kj25 l1 a2 l3 t335 true l0_0 t332 t347)))) = some r := H
      have A92 := AM A920
      clear A920
      have HC93 := AM H
      clear H
      try go_wp2
      replace HO_13 := AM (Kd.R_drew HO_13.out)
      replace HO_14 := AM (Kd.R_drew HO_14.out)
      replace HO_337000 := AM (Kd.R_drew HO_337000.out)
      replace HO_341000 := AM (Kd.R_drew HO_341000.out)
      replace HO_352000 := AM (Kd.R_drew HO_352000.out)
      replace BK320 := AM (blk_drew BK320.out)
      replace BK336 := AM (blk_drew BK336.out)
      replace BK340 := AM (blk_drew BK340.out)
      replace BK351 := AM (blk_drew BK351.out)
      replace HB := AM (below_drew1 HB.out)
      refine start_ (n := 5) (S := fun w' => w'.cell? ⟨gb340, 0, none⟩ = some (.slice Ao46 t337.length co46) ∧ w'.cell? ⟨gb320, 0, none⟩ = some (.slice A0_0 l0_0.length c0_0)) (ds := []) #[false, false, false, false, false] (by kernel_rfl) rfl rfl ⟨bc BK340 0, bc BK320 0⟩ (fun hHeld => ?_)
      generalize wc.drew = w94 at HO_13 HO_14 HO_337000 HO_341000 HO_352000 BK320 BK336 BK340 BK351 HB hHeld ⊢
      refine take_ (i := 0) (N := some 69) (v := ?_) (a' := ?_) #[true, false, false, false, false] rfl rfl (by kernel_rfl) (fun _ _ _ h => h) (Or.inl ⟨by rfl, ?_⟩) hHeld ?_ ?_
      rotate_left
      ·rintro w' ⟨s0, s1⟩
       go_simp
       with_reducible rfl
      rotate_left
      ·simp only [Act.put, qT, q0, qS, i64_w, i32_w]
       rfl
      refine take_ (i := 1) (N := some 70) (v := ?_) (a' := ?_) #[true, true, false, false, false] rfl rfl (by kernel_rfl) (fun _ _ _ h => h) (Or.inl ⟨by rfl, ?_⟩) hHeld ?_ ?_
      rotate_left
      ·rintro w' ⟨s0, s1⟩
       go_simp
       with_reducible rfl
      rotate_left
      ·simp only [Act.put, qT, q0, qS, i64_w, i32_w]
       rfl
      refine one_ (i := 2) (N := some 71) #[true, true, true, false, false] rfl rfl (by kernel_rfl) (by decide) (fun K hK => ?_)
      refine goes_ Try.func11 (by kernel_rfl) rfl #[.agg #[.slice A0_0 l0_0.length c0_0]] (by rfl) rfl rfl am ?_
      with_reducible refine (laws_toDisk.calls kj25 _ _ l0_0 t353 _ ?side1 ?side2 A81.out).mono ?_
      (case side1 => repeat (first | exact (Kd.C_below HR0_0.out HB.out) | (with_reducible first | refine cA ?_ _ | refine cN ?_ _ | refine cD ?_)))
      (case side2 => exact HC0_0.out)
      rintro e w95 ⟨v354, rfl, ho0, hb⟩
      refine ⟨_, rfl, ?_⟩
      replace HO_13 := AM (Kd.R_below (by exact HO_13.out) hb)
      replace HO_14 := AM (Kd.R_below (by exact HO_14.out) hb)
      have HO355 := AM (Kd.R_lower (Kd.R_new' (Kd.R_new' (Kd.R_new' ho0 (Kd.R_lt (by exact HO_337000.out))) (Kd.R_lt (by exact HO_341000.out))) (Kd.R_lt (by exact HO_352000.out))) (below_size (hS)))
      replace HO_337000 := AM (Kd.R_elder' (by exact HO_337000.out) (Kd.R_base ho0) hb)
      replace HO_341000 := AM (Kd.R_elder' (by exact HO_341000.out) (Kd.R_base ho0) hb)
      replace HO_352000 := AM (Kd.R_elder' (by exact HO_352000.out) (Kd.R_base ho0) hb)
      replace BK320 := bw BK320 hb
      replace BK336 := bw BK336 hb
      replace BK340 := bw BK340 hb
      replace BK351 := bw BK351 hb
      replace HB := AM (below_step (hS) hb)
      (try clear hb)
      (try clear hb2)
      (try clear hk)
      (try clear hi)
      (try clear ho0)
      obtain ⟨Ao96, co96, eo96⟩ := Kd.R_slice HO355.out
      (first | subst eo96 | (injection eo96 with f1_ f2_ f3_; have f4_ := f1_.symm; have f5_ := f3_.symm; clear f1_ f2_ f3_; subst f4_; subst f5_))
      refine hK.out _ _ ⟨bc BK340 0, bc BK320 0⟩ (fun hHeld => ?_)
      clear hK K
      refine norm_ (a' := ?_) ?_ ?_
      rotate_left
      ·show Act.put _ (some 71) _ = _
       simp only [Act.put, qT, q0, qS, i64_w, i32_w]
       rfl
      refine one_ (i := 3) (N := some 72) #[true, true, true, true, false] rfl rfl (by kernel_rfl) (by decide) (fun K hK => ?_)
      refine goes_ Try.func13 (by kernel_rfl) rfl #[.agg #[.slice Ao46 t337.length co46], .agg #[.slice Ao96 t353.length co96]] (by rfl) rfl rfl am ?_
      with_reducible refine (laws_eqDisk.calls kj25 _ _ t337 _ _ t353 true _ ?side1 ?side2 ?side3 ?side4 A82.out).mono ?_
      (case side1 => repeat (first | exact (Kd.R_reads' HO_341000.out).2.2 | (with_reducible first | refine cA ?_ _ | refine cN ?_ _ | refine cD ?_)))
      (case side2 => exact (Kd.R_reads' HO_341000.out).2.1)
      (case side3 => repeat (first | exact (Kd.R_reads' HO355.out).2.2 | (with_reducible first | refine cA ?_ _ | refine cN ?_ _ | refine cD ?_)))
      (case side4 => exact (Kd.R_reads' HO355.out).2.1)
      rintro e w97 ⟨rfl, hb⟩
      refine ⟨_, rfl, ?_⟩
      replace HO_13 := AM (Kd.R_below (by exact HO_13.out) hb)
      replace HO_14 := AM (Kd.R_below (by exact HO_14.out) hb)
      replace HO_337000 := AM (Kd.R_below (by exact HO_337000.out) hb)
      replace HO_341000 := AM (Kd.R_below (by exact HO_341000.out) hb)
      replace HO_352000 := AM (Kd.R_below (by exact HO_352000.out) hb)
      replace HO355 := AM (Kd.R_below (by exact HO355.out) hb)
      replace BK320 := bw BK320 hb
      replace BK336 := bw BK336 hb
      replace BK340 := bw BK340 hb
      replace BK351 := bw BK351 hb
      replace HB := AM (below_step (hS) hb)
      (try clear hb)
      (try clear hb2)
      (try clear hk)
      (try clear hi)
      refine hK.out _ _ ⟨bc BK340 0, bc BK320 0⟩ (fun hHeld => ?_)
      clear hK K
      refine norm_ (a' := ?_) ?_ ?_
      rotate_left
      ·show Act.put _ (some 72) _ = _
       simp only [Act.put, qT, q0, qS, i64_w, i32_w]
       rfl
      refine pure_ (i := 4) (N := some 73) (v := ?_) (a' := ?_) #[true, true, true, true, true] rfl rfl (by kernel_rfl) (fun _ _ _ h => h) (Or.inl ⟨by rfl, ?_⟩) ?_ ?_
      rotate_left
      ·intro w'
       go_simp
       with_reducible rfl
      rotate_left
      ·simp only [Act.put, qT, q0, qS, i64_w, i32_w]
       rfl
      refine done_ (by kernel_rfl) ?_
      go_upto_region 27 with (first | ((with_reducible refine gc 24 rfl ?_); refine goesL_ (some 76) rfl rfl Try.func24 (by kernel_rfl) rfl #[.slice A1 l1.length c1] rfl am ?_; (with_reducible refine (laws_toActS.calls kj25 _ _ l1 t357 _ ?side1 ?side2 A84.out).mono ?_); (case side1 => repeat (first | exact (Kd.C_below HR1.out HB.out) | (with_reducible first | refine cA ?_ _ | refine cN ?_ _ | refine cD ?_))); (case side2 => exact HC1.out); rintro e w98 ⟨v358, rfl, ho0, hb⟩; refine ⟨_, rfl, ?_⟩; replace HO_14 := AM (Kd.R_below (by exact HO_14.out) hb); replace HO_337000 := AM (Kd.R_below (by exact HO_337000.out) hb); replace HO_341000 := AM (Kd.R_below (by exact HO_341000.out) hb); replace HO_352000 := AM (Kd.R_below (by exact HO_352000.out) hb); replace HO355 := AM (Kd.R_below (by exact HO355.out) hb); have HO359 := AM (Kd.R_lower (Kd.R_new' ho0 (Kd.R_lt (by exact HO_13.out))) (below_size (hS))); replace HO_13 := AM (Kd.R_elder' (by exact HO_13.out) (Kd.R_base ho0) hb); replace BK320 := bw BK320 hb; replace BK336 := bw BK336 hb; replace BK340 := bw BK340 hb; replace BK351 := bw BK351 hb; replace HB := AM (below_step (hS) hb); (try clear hb); (try clear ho0); obtain ⟨Ao99, co99, eo99⟩ := Kd.R_slice HO359.out; subst eo99) | ((with_reducible refine gc 26 rfl ?_); refine goesL_ (some 77) rfl rfl Try.func26 (by kernel_rfl) rfl #[.slice Ao53 t341.length co53, .slice Ao99 t357.length co99] rfl am ?_; (with_reducible refine (laws_eqActS.calls kj25 _ _ t341 _ _ t357 true _ ?side1 ?side2 ?side3 ?side4 A85.out).mono ?_); (case side1 => repeat (first | exact (Kd.R_reads' HO_13.out).2.2 | (with_reducible first | refine cA ?_ _ | refine cN ?_ _ | refine cD ?_))); (case side2 => exact (Kd.R_reads' HO_13.out).2.1); (case side3 => repeat (first | exact (Kd.R_reads' HO359.out).2.2 | (with_reducible first | refine cA ?_ _ | refine cN ?_ _ | refine cD ?_))); (case side4 => exact (Kd.R_reads' HO359.out).2.1); rintro e w100 ⟨rfl, hb⟩; refine ⟨_, rfl, ?_⟩; replace HO_13 := AM (Kd.R_below (by exact HO_13.out) hb); replace HO_14 := AM (Kd.R_below (by exact HO_14.out) hb); replace HO_337000 := AM (Kd.R_below (by exact HO_337000.out) hb); replace HO_341000 := AM (Kd.R_below (by exact HO_341000.out) hb); replace HO_352000 := AM (Kd.R_below (by exact HO_352000.out) hb); replace HO355 := AM (Kd.R_below (by exact HO355.out) hb); replace HO359 := AM (Kd.R_below (by exact HO359.out) hb); replace BK320 := bw BK320 hb; replace BK336 := bw BK336 hb; replace BK340 := bw BK340 hb; replace BK351 := bw BK351 hb; replace HB := AM (below_step (hS) hb); (try clear hb)) | ((with_reducible refine gc 29 rfl ?_); refine goesL_ (some 81) rfl rfl Try.func29 (by kernel_rfl) rfl #[.slice A3 l3.length c3] rfl am ?_; (with_reducible refine (laws_toIntS.calls kj25 _ _ l3 t361 _ ?side1 ?side2 A87.out).mono ?_); (case side1 => repeat (first | exact (Kd.C_below HR3.out HB.out) | (with_reducible first | refine cA ?_ _ | refine cN ?_ _ | refine cD ?_))); (case side2 => exact HC3.out); rintro e w101 ⟨v362, rfl, ho0, hb⟩; refine ⟨_, rfl, ?_⟩; replace HO_13 := AM (Kd.R_below (by exact HO_13.out) hb); replace HO_337000 := AM (Kd.R_below (by exact HO_337000.out) hb); replace HO_341000 := AM (Kd.R_below (by exact HO_341000.out) hb); replace HO_352000 := AM (Kd.R_below (by exact HO_352000.out) hb); replace HO355 := AM (Kd.R_below (by exact HO355.out) hb); replace HO359 := AM (Kd.R_below (by exact HO359.out) hb); have HO363 := AM (Kd.R_lower (Kd.R_new' ho0 (Kd.R_lt (by exact HO_14.out))) (below_size (hS))); replace HO_14 := AM (Kd.R_elder' (by exact HO_14.out) (Kd.R_base ho0) hb); replace BK320 := bw BK320 hb; replace BK336 := bw BK336 hb; replace BK340 := bw BK340 hb; replace BK351 := bw BK351 hb; replace HB := AM (below_step (hS) hb); (try clear hb); (try clear ho0); obtain ⟨Ao102, co102, eo102⟩ := Kd.R_slice HO363.out; subst eo102) | ((with_reducible refine gc 31 rfl ?_); refine goesL_ (some 82) rfl rfl Try.func31 (by kernel_rfl) rfl #[.slice Ao54 t344.length co54, .slice Ao102 t361.length co102] rfl am ?_; (with_reducible refine (laws_eqIntS.calls kj25 _ _ t344 _ _ t361 true _ ?side1 ?side2 ?side3 ?side4 A88.out).mono ?_); (case side1 => repeat (first | exact (Kd.R_reads' HO_14.out).2.2 | (with_reducible first | refine cA ?_ _ | refine cN ?_ _ | refine cD ?_))); (case side2 => exact (Kd.R_reads' HO_14.out).2.1); (case side3 => repeat (first | exact (Kd.R_reads' HO363.out).2.2 | (with_reducible first | refine cA ?_ _ | refine cN ?_ _ | refine cD ?_))); (case side4 => exact (Kd.R_reads' HO363.out).2.1); rintro e w' ⟨rfl, ⟨nd, rfl⟩⟩; refine ⟨_, rfl, ?_⟩; have hnb103 := NB340_320.out; have hnc103 := NB320_340.out; have hnb104 := NB340_336.out; have hnc104 := NB336_340.out; have hnb105 := NB340_351.out; have hnc105 := NB351_340.out; have hcz106_0 := bv BK340 0 (.slice Ao46 t337.length co46); have hfz106_0 := bz BK340 0) | ((with_reducible refine gc 20 rfl ?_); refine goesL_ (some 86) rfl rfl Try.func20 (by kernel_rfl) rfl #[.agg #[.slice Ao46 t337.length co46], .int .i64 1] rfl am ?_; (with_reducible refine (laws_markDisk.calls kj25 (fun k_ => some k_ = (.slice Ao46 t337.length co46 : Value).ownBlock) (.slice Ao46 t337.length co46) t337 1 t365 t366 w _ ?side1 ?side2 A90.out).mono ?_); (case side1 => repeat (first | (with_reducible first | exact HB.out | apply bA | apply bN | apply bD | refine below_set ?_ GE320.out | refine below_set ?_ GE336.out | refine below_set ?_ GE340.out | refine below_set ?_ GE351.out) | exact HB.out)); (case side2 => exact Kd.R_tight rfl HO_341000.out); rintro e w107 ⟨rfl, hy0, hb, hkp⟩; refine ⟨_, rfl, ?_⟩; replace HO_13 := AM (Kd.R_mono (ok' := fun k_ => some k_ ≠ (.slice Ao99 t357.length co99 : Value).ownBlock) (Kd.R_keptB ((Kd.R_apart' HO_13.out (Kd.R_typed HO_341000.out) (by decide))) hkp (fun k_ hk_ hs_ => (hk_.2) hs_)) (fun k_ hk_ => hk_.1.1.2)); replace HO_14 := AM (Kd.R_mono (ok' := fun k_ => some k_ ≠ (.slice Ao102 t361.length co102 : Value).ownBlock) (Kd.R_keptB ((Kd.R_apart' HO_14.out (Kd.R_typed HO_341000.out) (by decide))) hkp (fun k_ hk_ hs_ => (hk_.2) hs_)) (fun k_ hk_ => hk_.1.1.2)); replace HO_337000 := AM (Kd.R_mono (ok' := fun k_ => some k_ ≠ (.slice Ao46 t337.length co46 : Value).ownBlock ∧ some k_ ≠ (.slice Ao57 t347.length co57 : Value).ownBlock ∧ some k_ ≠ (.slice Ao96 t353.length co96 : Value).ownBlock) (Kd.R_keptB (HO_337000.out) hkp (fun k_ hk_ hs_ => (hk_.1.1) hs_)) (fun k_ hk_ => ⟨hk_.1.1.1, hk_.1.1.2, hk_.1.2⟩)); replace HO_352000 := AM (Kd.R_mono (ok' := fun k_ => some k_ ≠ (.slice Ao40 t332.length co40 : Value).ownBlock ∧ some k_ ≠ (.slice Ao46 t337.length co46 : Value).ownBlock ∧ some k_ ≠ (.slice Ao96 t353.length co96 : Value).ownBlock) (Kd.R_keptB (HO_352000.out) hkp (fun k_ hk_ hs_ => (hk_.1.2) hs_)) (fun k_ hk_ => ⟨hk_.1.1.1, hk_.1.1.2, hk_.1.2⟩)); replace BK320 := AM (blk_kept (bk BK320) hkp (fun hs_ => (fun e_ => (Kd.R_ne HO_341000.out BK320.out (by decide)) e_) hs_)); replace BK336 := AM (blk_kept (bk BK336) hkp (fun hs_ => (fun e_ => (Kd.R_ne HO_341000.out BK336.out (by decide)) e_) hs_)); replace BK340 := AM (blk_kept (bk BK340) hkp (fun hs_ => (fun e_ => (Kd.R_ne HO_341000.out BK340.out (by decide)) e_) hs_)); replace BK351 := AM (blk_kept (bk BK351) hkp (fun hs_ => (fun e_ => (Kd.R_ne HO_341000.out BK351.out (by decide)) e_) hs_)); replace HO355 := AM (Kd.R_mono (ok' := fun k_ => some k_ ≠ (.slice Ao40 t332.length co40 : Value).ownBlock ∧ some k_ ≠ (.slice Ao46 t337.length co46 : Value).ownBlock ∧ some k_ ≠ (.slice Ao57 t347.length co57 : Value).ownBlock) (Kd.R_keptB (HO355.out) hkp (fun k_ hk_ hs_ => (hk_.1.2) hs_)) (fun k_ hk_ => ⟨hk_.1.1.1.2, hk_.1.1.2, hk_.1.2⟩)); replace HO359 := AM (Kd.R_mono (ok' := fun k_ => some k_ ≠ (.slice Ao53 t341.length co53 : Value).ownBlock) (Kd.R_keptB ((Kd.R_apart' HO359.out (Kd.R_typed HO_341000.out) (by decide))) hkp (fun k_ hk_ hs_ => (hk_.2) hs_)) (fun k_ hk_ => hk_.1.1.2)); replace HO363 := AM (Kd.R_mono (ok' := fun k_ => some k_ ≠ (.slice Ao54 t344.length co54 : Value).ownBlock) (Kd.R_keptB ((Kd.R_apart' HO363.out (Kd.R_typed HO_341000.out) (by decide))) hkp (fun k_ hk_ hs_ => (hk_.2) hs_)) (fun k_ hk_ => hk_.1.1.2)); replace HO_341000 := AM (Kd.R_reok rfl hy0 (fun k_ e_ => HO_341000.out.1 k_ e_)); replace HB := AM (hb); (try clear hb); (try clear hkp); (try clear hy0)) | ((with_reducible refine gc 27 rfl ?_); refine goesL_ (some 89) rfl rfl Try.func27 (by kernel_rfl) rfl #[.slice Ao53 t341.length co53, .int .i64 t365] rfl am ?_; (with_reducible refine (laws_markActS.calls kj25 (fun k_ => some k_ = (.slice Ao53 t341.length co53 : Value).ownBlock) (.slice Ao53 t341.length co53) t341 t365 t367 t368 w _ ?side1 ?side2 A91.out).mono ?_); (case side1 => repeat (first | (with_reducible first | exact HB.out | apply bA | apply bN | apply bD | refine below_set ?_ GE320.out | refine below_set ?_ GE336.out | refine below_set ?_ GE340.out | refine below_set ?_ GE351.out) | exact HB.out)); (case side2 => exact Kd.R_tight rfl HO_13.out); rintro e w108 ⟨rfl, hy0, hb, hkp⟩; refine ⟨_, rfl, ?_⟩; replace HO_14 := AM (Kd.R_mono (ok' := fun k_ => some k_ ≠ (.slice Ao102 t361.length co102 : Value).ownBlock) (Kd.R_keptB ((Kd.R_apart' HO_14.out (Kd.R_typed HO_13.out) (by decide))) hkp (fun k_ hk_ hs_ => (hk_.2) hs_)) (fun k_ hk_ => hk_.1.1)); replace HO_337000 := AM (Kd.R_mono (ok' := fun k_ => some k_ ≠ (.slice Ao46 t337.length co46 : Value).ownBlock ∧ some k_ ≠ (.slice Ao57 t347.length co57 : Value).ownBlock ∧ some k_ ≠ (.slice Ao96 t353.length co96 : Value).ownBlock) (Kd.R_keptB ((Kd.R_apart' HO_337000.out (Kd.R_typed HO_13.out) (by decide))) hkp (fun k_ hk_ hs_ => (hk_.2) hs_)) (fun k_ hk_ => ⟨hk_.1.1.1, hk_.1.1.2.1, hk_.1.1.2.2⟩)); replace HO_341000 := AM (Kd.R_mono (ok' := fun k_ => some k_ ≠ (.slice Ao40 t332.length co40 : Value).ownBlock ∧ some k_ ≠ (.slice Ao57 t347.length co57 : Value).ownBlock ∧ some k_ ≠ (.slice Ao96 t353.length co96 : Value).ownBlock) (Kd.R_keptB ((Kd.R_apart' HO_341000.out (Kd.R_typed HO_13.out) (by decide))) hkp (fun k_ hk_ hs_ => (hk_.2) hs_)) (fun k_ hk_ => ⟨hk_.1.1.1.1, hk_.1.1.1.2, hk_.1.1.2⟩)); replace HO_352000 := AM (Kd.R_mono (ok' := fun k_ => some k_ ≠ (.slice Ao40 t332.length co40 : Value).ownBlock ∧ some k_ ≠ (.slice Ao46 t337.length co46 : Value).ownBlock ∧ some k_ ≠ (.slice Ao96 t353.length co96 : Value).ownBlock) (Kd.R_keptB ((Kd.R_apart' HO_352000.out (Kd.R_typed HO_13.out) (by decide))) hkp (fun k_ hk_ hs_ => (hk_.2) hs_)) (fun k_ hk_ => ⟨hk_.1.1.1, hk_.1.1.2.1, hk_.1.1.2.2⟩)); replace BK320 := AM (blk_kept (bk BK320) hkp (fun hs_ => (fun e_ => (Kd.R_ne HO_13.out BK320.out (by decide)) e_) hs_)); replace BK336 := AM (blk_kept (bk BK336) hkp (fun hs_ => (fun e_ => (Kd.R_ne HO_13.out BK336.out (by decide)) e_) hs_)); replace BK340 := AM (blk_kept (bk BK340) hkp (fun hs_ => (fun e_ => (Kd.R_ne HO_13.out BK340.out (by decide)) e_) hs_)); replace BK351 := AM (blk_kept (bk BK351) hkp (fun hs_ => (fun e_ => (Kd.R_ne HO_13.out BK351.out (by decide)) e_) hs_)); replace HO355 := AM (Kd.R_mono (ok' := fun k_ => some k_ ≠ (.slice Ao40 t332.length co40 : Value).ownBlock ∧ some k_ ≠ (.slice Ao46 t337.length co46 : Value).ownBlock ∧ some k_ ≠ (.slice Ao57 t347.length co57 : Value).ownBlock) (Kd.R_keptB ((Kd.R_apart' HO355.out (Kd.R_typed HO_13.out) (by decide))) hkp (fun k_ hk_ hs_ => (hk_.2) hs_)) (fun k_ hk_ => ⟨hk_.1.1.1, hk_.1.1.2.1, hk_.1.1.2.2⟩)); replace HO359 := AM (Kd.R_mono (ok' := fun k_ => some k_ ≠ (.slice Ao53 t341.length co53 : Value).ownBlock) (Kd.R_keptB (HO359.out) hkp (fun k_ hk_ hs_ => (hk_) hs_)) (fun k_ hk_ => hk_.1)); replace HO363 := AM (Kd.R_mono (ok' := fun k_ => some k_ ≠ (.slice Ao54 t344.length co54 : Value).ownBlock) (Kd.R_keptB ((Kd.R_apart' HO363.out (Kd.R_typed HO_13.out) (by decide))) hkp (fun k_ hk_ hs_ => (hk_.2) hs_)) (fun k_ hk_ => hk_.1.1)); replace HO_13 := AM (Kd.R_reok rfl hy0 (fun k_ e_ => HO_13.out.1 k_ e_)); replace HB := AM (hb); (try clear hb); (try clear hkp); (try clear hy0)) | ((with_reducible refine gc 32 rfl ?_); refine goesL_ (some 92) rfl rfl Try.func32 (by kernel_rfl) rfl #[.slice Ao54 t344.length co54, .int .i64 t367] rfl am ?_; (with_reducible refine (laws_markIntS.calls kj25 (fun k_ => some k_ = (.slice Ao54 t344.length co54 : Value).ownBlock) (.slice Ao54 t344.length co54) t344 t367 t369 t370 w _ ?side1 ?side2 A92.out).mono ?_); (case side1 => repeat (first | (with_reducible first | exact HB.out | apply bA | apply bN | apply bD | refine below_set ?_ GE320.out | refine below_set ?_ GE336.out | refine below_set ?_ GE340.out | refine below_set ?_ GE351.out) | exact HB.out)); (case side2 => exact Kd.R_tight rfl HO_14.out); rintro e w109 ⟨rfl, hy0, hb, hkp⟩; refine ⟨_, rfl, ?_⟩; replace HO_13 := AM (Kd.R_mono (ok' := fun k_ => some k_ ≠ (.slice Ao99 t357.length co99 : Value).ownBlock) (Kd.R_keptB ((Kd.R_apart' HO_13.out (Kd.R_typed HO_14.out) (by decide))) hkp (fun k_ hk_ hs_ => (hk_.2) hs_)) (fun k_ hk_ => hk_.1.1)); replace HO_337000 := AM (Kd.R_mono (ok' := fun k_ => some k_ ≠ (.slice Ao46 t337.length co46 : Value).ownBlock ∧ some k_ ≠ (.slice Ao57 t347.length co57 : Value).ownBlock ∧ some k_ ≠ (.slice Ao96 t353.length co96 : Value).ownBlock) (Kd.R_keptB ((Kd.R_apart' HO_337000.out (Kd.R_typed HO_14.out) (by decide))) hkp (fun k_ hk_ hs_ => (hk_.2) hs_)) (fun k_ hk_ => ⟨hk_.1.1.1, hk_.1.1.2.1, hk_.1.1.2.2⟩)); replace HO_341000 := AM (Kd.R_mono (ok' := fun k_ => some k_ ≠ (.slice Ao40 t332.length co40 : Value).ownBlock ∧ some k_ ≠ (.slice Ao57 t347.length co57 : Value).ownBlock ∧ some k_ ≠ (.slice Ao96 t353.length co96 : Value).ownBlock) (Kd.R_keptB ((Kd.R_apart' HO_341000.out (Kd.R_typed HO_14.out) (by decide))) hkp (fun k_ hk_ hs_ => (hk_.2) hs_)) (fun k_ hk_ => ⟨hk_.1.1.1, hk_.1.1.2.1, hk_.1.1.2.2⟩)); replace HO_352000 := AM (Kd.R_mono (ok' := fun k_ => some k_ ≠ (.slice Ao40 t332.length co40 : Value).ownBlock ∧ some k_ ≠ (.slice Ao46 t337.length co46 : Value).ownBlock ∧ some k_ ≠ (.slice Ao96 t353.length co96 : Value).ownBlock) (Kd.R_keptB ((Kd.R_apart' HO_352000.out (Kd.R_typed HO_14.out) (by decide))) hkp (fun k_ hk_ hs_ => (hk_.2) hs_)) (fun k_ hk_ => ⟨hk_.1.1.1, hk_.1.1.2.1, hk_.1.1.2.2⟩)); replace BK320 := AM (blk_kept (bk BK320) hkp (fun hs_ => (fun e_ => (Kd.R_ne HO_14.out BK320.out (by decide)) e_) hs_)); replace BK336 := AM (blk_kept (bk BK336) hkp (fun hs_ => (fun e_ => (Kd.R_ne HO_14.out BK336.out (by decide)) e_) hs_)); replace BK340 := AM (blk_kept (bk BK340) hkp (fun hs_ => (fun e_ => (Kd.R_ne HO_14.out BK340.out (by decide)) e_) hs_)); replace BK351 := AM (blk_kept (bk BK351) hkp (fun hs_ => (fun e_ => (Kd.R_ne HO_14.out BK351.out (by decide)) e_) hs_)); replace HO355 := AM (Kd.R_mono (ok' := fun k_ => some k_ ≠ (.slice Ao40 t332.length co40 : Value).ownBlock ∧ some k_ ≠ (.slice Ao46 t337.length co46 : Value).ownBlock ∧ some k_ ≠ (.slice Ao57 t347.length co57 : Value).ownBlock) (Kd.R_keptB ((Kd.R_apart' HO355.out (Kd.R_typed HO_14.out) (by decide))) hkp (fun k_ hk_ hs_ => (hk_.2) hs_)) (fun k_ hk_ => ⟨hk_.1.1.1, hk_.1.1.2.1, hk_.1.1.2.2⟩)); replace HO359 := AM (Kd.R_mono (ok' := fun k_ => some k_ ≠ (.slice Ao53 t341.length co53 : Value).ownBlock) (Kd.R_keptB ((Kd.R_apart' HO359.out (Kd.R_typed HO_14.out) (by decide))) hkp (fun k_ hk_ hs_ => (hk_.2) hs_)) (fun k_ hk_ => hk_.1.1)); replace HO_14 := AM (Kd.R_reok rfl hy0 (fun k_ e_ => HO_14.out.1 k_ e_)); replace HO363 := AM (Kd.R_mono (ok' := fun k_ => some k_ ≠ (.slice Ao54 t344.length co54 : Value).ownBlock) (Kd.R_keptB (HO363.out) hkp (fun k_ hk_ hs_ => (hk_) hs_)) (fun k_ hk_ => hk_.1)); replace HB := AM (hb); (try clear hb); (try clear hkp); (try clear hy0)))
      (try simp only [Act.put, qT, q0, qS])
      go_cut [105] (fun v105 wc => ∃ (kq : Nat) (x105_92 : Bool), v105 = .bool x105_92 ∧ Aside0 (laws_FnExactCutActs.j1 kq l1 a2 l3 t335 x105_92 l0_0 t332 t347 = some r) ∧ Aside0 (kq ≤ kj25) ∧ Aside0 (Kd.R k67 67 wc w.heap.size (fun k_ => some k_ ≠ ((.slice Ao46 t337.length co46) : Value).ownBlock ∧ some k_ ≠ ((.slice Ao57 t347.length co57) : Value).ownBlock) (.slice Ao40 t332.length co40) t332) ∧ Aside0 (Kd.R k67 67 wc w.heap.size (fun k_ => some k_ ≠ ((.slice Ao40 t332.length co40) : Value).ownBlock ∧ some k_ ≠ ((.slice Ao57 t347.length co57) : Value).ownBlock) (.slice Ao46 t337.length co46) t366) ∧ Aside0 (Kd.R k67 67 wc w.heap.size (fun k_ => some k_ ≠ ((.slice Ao40 t332.length co40) : Value).ownBlock ∧ some k_ ≠ ((.slice Ao46 t337.length co46) : Value).ownBlock) (.slice Ao57 t347.length co57) t347) ∧ Aside0 (wc.heap[gb320]? = some (.cells #[(.slice A0_0 l0_0.length c0_0)] 24 (0, 0))) ∧ Aside0 (wc.heap[gb336]? = some (.cells #[(.slice Ao40 t332.length co40)] 30 (0, 0))) ∧ Aside0 (wc.heap[gb340]? = some (.cells #[(.slice Ao46 t337.length co46)] 30 (0, 0))) ∧ Aside0 (wc.heap[gb351]? = some (.cells #[(.slice Ao57 t347.length co57)] 30 (0, 0))) ∧ Aside0 (Below w.heap.size w wc))
      case first =>
       have H := HC93.out
       clear HC93
       by_cases c110 : t369 < 0
       ·rw [if_pos c110] at H
        have c110b0 : decide (t369 < 0) = true := decide_eq_true c110
        clear c110
        (first | rw [c110b0] | (simp only [i64_w, i32_w]; rw [c110b0]) | rw [c110b1] | skip)
        have H' := AM H
        clear H
        go_wp2
        go_meet
        case rel => exact ⟨_, (true), sf, H', ⟨by have := HJ25.out; first | omega | exact Nat.le_refl _⟩, ⟨by exact Kd.R_mono HO_337000.out (fun _ hk => ⟨hk.1, hk.2.1⟩)⟩, ⟨by exact Kd.R_mono HO_341000.out (fun _ hk => ⟨hk.1, hk.2.1⟩)⟩, ⟨by exact Kd.R_mono HO_352000.out (fun _ hk => ⟨hk.1, hk.2.1⟩)⟩, ⟨bk BK320⟩, ⟨bk BK336⟩, ⟨bk BK340⟩, ⟨bk BK351⟩, ⟨hS⟩⟩
       rw [if_neg c110] at H
       have c110b0 : decide (t369 < 0) = false := decide_eq_false c110
       clear c110
       (first | rw [c110b0] | (simp only [i64_w, i32_w]; rw [c110b0]) | rw [c110b1] | skip)
       replace H := bm H
       obtain ⟨t371, A1110, H⟩ := H
       replace H : (if t371 = true then (laws_FnExactCutActs.j1 kj25 l1 a2 l3 t335 (t350 != t335) l0_0 t332 t347) else (laws_FnExactCutActs.j1 kj25 l1 a2 l3 t335 true l0_0 t332 t347)) = some r := H
       have A111 := AM A1110
       clear A1110
       by_cases c112 : t371 = true
       ·subst c112
        have H1 : (laws_FnExactCutActs.j1 kj25 l1 a2 l3 t335 (t350 != t335) l0_0 t332 t347) = some r := by rw [if_pos rfl] at H; exact H
        clear H
        have H := H1
        clear H1
        have H' := AM H
        clear H
        have hnb113 := NB351_320.out
        have hnc113 := NB320_351.out
        have hnb114 := NB351_336.out
        have hnc114 := NB336_351.out
        have hnb115 := NB351_340.out
        have hnc115 := NB340_351.out
        have hcz116_0 := bv BK351 0 (.slice Ao57 t347.length co57)
        have hfz116_0 := bz BK351 0
        have hnb117 := NB336_320.out
        have hnc117 := NB320_336.out
        have hnb118 := NB336_340.out
        have hnc118 := NB340_336.out
        have hcz119_0 := bv BK336 0 (.slice Ao40 t332.length co40)
        have hfz119_0 := bz BK336 0
        go_wp2_with (first | (go_at_call 13; (with_reducible refine (laws_eqDisk.calls kj25 _ _ t347 _ _ t332 true _ ?side1 ?side2 ?side3 ?side4 A111.out).mono ?_); (case side1 => repeat (first | exact (Kd.R_reads' HO_352000.out).2.2 | (with_reducible first | refine cA ?_ _ | refine cN ?_ _ | refine cD ?_))); (case side2 => exact (Kd.R_reads' HO_352000.out).2.1); (case side3 => repeat (first | exact (Kd.R_reads' HO_337000.out).2.2 | (with_reducible first | refine cA ?_ _ | refine cN ?_ _ | refine cD ?_))); (case side4 => exact (Kd.R_reads' HO_337000.out).2.1); rintro e w120 ⟨rfl, hb⟩; replace HO_13 := AM (Kd.R_below (by exact HO_13.out) hb); replace HO_14 := AM (Kd.R_below (by exact HO_14.out) hb); replace HO_337000 := AM (Kd.R_below (by exact HO_337000.out) hb); replace HO_341000 := AM (Kd.R_below (by exact HO_341000.out) hb); replace HO_352000 := AM (Kd.R_below (by exact HO_352000.out) hb); replace HO355 := AM (Kd.R_below (by exact HO355.out) hb); replace HO359 := AM (Kd.R_below (by exact HO359.out) hb); replace HO363 := AM (Kd.R_below (by exact HO363.out) hb); replace BK320 := bw BK320 hb; replace BK336 := bw BK336 hb; replace BK340 := bw BK340 hb; replace BK351 := bw BK351 hb; replace HB := AM (below_step (hS) hb); (try clear hb); (try clear hk)))
        go_meet
        case rel => exact ⟨_, ((t350 != t335)), sf, H', ⟨by have := HJ25.out; first | omega | exact Nat.le_refl _⟩, ⟨by exact Kd.R_mono HO_337000.out (fun _ hk => ⟨hk.1, hk.2.1⟩)⟩, ⟨by exact Kd.R_mono HO_341000.out (fun _ hk => ⟨hk.1, hk.2.1⟩)⟩, ⟨by exact Kd.R_mono HO_352000.out (fun _ hk => ⟨hk.1, hk.2.1⟩)⟩, ⟨bk BK320⟩, ⟨bk BK336⟩, ⟨bk BK340⟩, ⟨bk BK351⟩, ⟨hS⟩⟩
       replace c112 := Bool.eq_false_iff.mpr c112
       subst c112
       have H1 : (laws_FnExactCutActs.j1 kj25 l1 a2 l3 t335 true l0_0 t332 t347) = some r := by rw [if_neg (show ¬ (false = true) by decide)] at H; exact H
       clear H
       have H := H1
       clear H1
       have H' := AM H
       clear H
       have hnb121 := NB351_320.out
       have hnc121 := NB320_351.out
       have hnb122 := NB351_336.out
       have hnc122 := NB336_351.out
       have hnb123 := NB351_340.out
       have hnc123 := NB340_351.out
       have hcz124_0 := bv BK351 0 (.slice Ao57 t347.length co57)
       have hfz124_0 := bz BK351 0
       have hnb125 := NB336_320.out
       have hnc125 := NB320_336.out
       have hnb126 := NB336_340.out
       have hnc126 := NB340_336.out
       have hcz127_0 := bv BK336 0 (.slice Ao40 t332.length co40)
       have hfz127_0 := bz BK336 0
       go_wp2_with (first | (go_at_call 13; (with_reducible refine (laws_eqDisk.calls kj25 _ _ t347 _ _ t332 false _ ?side1 ?side2 ?side3 ?side4 A111.out).mono ?_); (case side1 => repeat (first | exact (Kd.R_reads' HO_352000.out).2.2 | (with_reducible first | refine cA ?_ _ | refine cN ?_ _ | refine cD ?_))); (case side2 => exact (Kd.R_reads' HO_352000.out).2.1); (case side3 => repeat (first | exact (Kd.R_reads' HO_337000.out).2.2 | (with_reducible first | refine cA ?_ _ | refine cN ?_ _ | refine cD ?_))); (case side4 => exact (Kd.R_reads' HO_337000.out).2.1); rintro e w128 ⟨rfl, hb⟩; replace HO_13 := AM (Kd.R_below (by exact HO_13.out) hb); replace HO_14 := AM (Kd.R_below (by exact HO_14.out) hb); replace HO_337000 := AM (Kd.R_below (by exact HO_337000.out) hb); replace HO_341000 := AM (Kd.R_below (by exact HO_341000.out) hb); replace HO_352000 := AM (Kd.R_below (by exact HO_352000.out) hb); replace HO355 := AM (Kd.R_below (by exact HO355.out) hb); replace HO359 := AM (Kd.R_below (by exact HO359.out) hb); replace HO363 := AM (Kd.R_below (by exact HO363.out) hb); replace BK320 := bw BK320 hb; replace BK336 := bw BK336 hb; replace BK340 := bw BK340 hb; replace BK351 := bw BK351 hb; replace HB := AM (below_step (hS) hb); (try clear hb); (try clear hk)))
       go_meet
       case rel => exact ⟨_, (true), sf, H', ⟨by have := HJ25.out; first | omega | exact Nat.le_refl _⟩, ⟨by exact Kd.R_mono HO_337000.out (fun _ hk => ⟨hk.1, hk.2.1⟩)⟩, ⟨by exact Kd.R_mono HO_341000.out (fun _ hk => ⟨hk.1, hk.2.1⟩)⟩, ⟨by exact Kd.R_mono HO_352000.out (fun _ hk => ⟨hk.1, hk.2.1⟩)⟩, ⟨bk BK320⟩, ⟨bk BK336⟩, ⟨bk BK340⟩, ⟨bk BK351⟩, ⟨hS⟩⟩
      case rest =>
       clear HC93
       obtain ⟨kq, x105_92, rfl, HA, HJ92, HO_337000, HO_341000, HO_352000, BK320, BK336, BK340, BK351, HB⟩ := hcut
       have hl341000_92 := (Kd.R_reads' HO_341000.out).1
       rw [hl341000_92] at HO_341000
       (try simp only [hl341000_92])
       (try simp only [hl341000_92] at BK320)
       (try simp only [hl341000_92] at BK336)
       (try simp only [hl341000_92] at BK340)
       (try simp only [hl341000_92] at BK351)
       (try simp only [hl341000_92] at HO_337000)
       (try simp only [hl341000_92] at HO_352000)
       cases kq with
       | zero => exact absurd HA.out (by simp [laws_FnExactCutActs.j1])
       | succ kj92 =>
        have H := HA.out
        clear HA
        simp only [laws_FnExactCutActs.j1] at H
        by_cases c129 : x105_92 = true
        ·subst c129
         have H1 : (some false) = some r := by rw [if_pos rfl] at H; exact H
         clear H
         have H := H1
         clear H1
         exact absurd ((Option.some.inj H).trans hT.out) (by decide)
        replace c129 := Bool.eq_false_iff.mpr c129
        subst c129
        have H1 : ((laws_markDisk.f kj92 t347 1).bind fun bt372 => ((laws_heldDisk.f kj92 bt372.2 1).bind fun t374 => (if t374 < 0 then (some false) else (if t374 = bt372.1 then ((laws_toDisk.f kj92 l0_0).bind fun t375 => ((laws_toActS.f kj92 l1).bind fun t378 => ((laws_toIntS.f kj92 l3).bind fun t381 => ((impl_CutActs.f kj92 t375 t378 a2 t381).bind fun bt384 => ((laws_eqDisk.f kj92 bt384.1 t332).bind fun t389 => (if t389 = true then (laws_FnExactCutActs.j2 kj92 bt372.1 (bt384.2 != t335) bt372.2) else (laws_FnExactCutActs.j2 kj92 bt372.1 true bt372.2))))))) else (some false))))) = some r := by rw [if_neg (show ¬ (false = true) by decide)] at H; exact H
        clear H
        have H := H1
        clear H1
        replace H := bm H
        obtain ⟨⟨t372, t373⟩, A1300, H⟩ := H
        replace H : ((laws_heldDisk.f kj92 t373 1).bind fun t374 => (if t374 < 0 then (some false) else (if t374 = t372 then ((laws_toDisk.f kj92 l0_0).bind fun t375 => ((laws_toActS.f kj92 l1).bind fun t378 => ((laws_toIntS.f kj92 l3).bind fun t381 => ((impl_CutActs.f kj92 t375 t378 a2 t381).bind fun bt384 => ((laws_eqDisk.f kj92 bt384.1 t332).bind fun t389 => (if t389 = true then (laws_FnExactCutActs.j2 kj92 t372 (bt384.2 != t335) t373) else (laws_FnExactCutActs.j2 kj92 t372 true t373))))))) else (some false)))) = some r := H
        have A130 := AM A1300
        clear A1300
        replace H := bm H
        obtain ⟨t374, A1310, H⟩ := H
        replace H : (if t374 < 0 then (some false) else (if t374 = t372 then ((laws_toDisk.f kj92 l0_0).bind fun t375 => ((laws_toActS.f kj92 l1).bind fun t378 => ((laws_toIntS.f kj92 l3).bind fun t381 => ((impl_CutActs.f kj92 t375 t378 a2 t381).bind fun bt384 => ((laws_eqDisk.f kj92 bt384.1 t332).bind fun t389 => (if t389 = true then (laws_FnExactCutActs.j2 kj92 t372 (bt384.2 != t335) t373) else (laws_FnExactCutActs.j2 kj92 t372 true t373))))))) else (some false))) = some r := H
        have A131 := AM A1310
        clear A1310
        by_cases c132 : t374 < 0
        ·rw [if_pos c132] at H
         have c132b0 : decide (t374 < 0) = true := decide_eq_true c132
         clear c132
         exact absurd ((Option.some.inj H).trans hT.out) (by decide)
        rw [if_neg c132] at H
        have c132b0 : decide (t374 < 0) = false := decide_eq_false c132
        clear c132
        by_cases c133 : t374 = t372
        ·rw [if_pos c133] at H
         have c133b0 : (t374 == t372) = true := beq_iff_eq.mpr c133
         have c133b1 : (t374 != t372) = false := bne_eq_false_iff_eq.mpr c133
         clear c133
         replace H := bm H
         obtain ⟨t375, A1340, H⟩ := H
         replace H : ((laws_toActS.f kj92 l1).bind fun t378 => ((laws_toIntS.f kj92 l3).bind fun t381 => ((impl_CutActs.f kj92 t375 t378 a2 t381).bind fun bt384 => ((laws_eqDisk.f kj92 bt384.1 t332).bind fun t389 => (if t389 = true then (laws_FnExactCutActs.j2 kj92 t372 (bt384.2 != t335) t373) else (laws_FnExactCutActs.j2 kj92 t372 true t373)))))) = some r := H
         have A134 := AM A1340
         clear A1340
         replace H := bm H
         obtain ⟨t378, A1350, H⟩ := H
         replace H : ((laws_toIntS.f kj92 l3).bind fun t381 => ((impl_CutActs.f kj92 t375 t378 a2 t381).bind fun bt384 => ((laws_eqDisk.f kj92 bt384.1 t332).bind fun t389 => (if t389 = true then (laws_FnExactCutActs.j2 kj92 t372 (bt384.2 != t335) t373) else (laws_FnExactCutActs.j2 kj92 t372 true t373))))) = some r := H
         have A135 := AM A1350
         clear A1350
         replace H := bm H
         obtain ⟨t381, A1360, H⟩ := H
         replace H : ((impl_CutActs.f kj92 t375 t378 a2 t381).bind fun bt384 => ((laws_eqDisk.f kj92 bt384.1 t332).bind fun t389 => (if t389 = true then (laws_FnExactCutActs.j2 kj92 t372 (bt384.2 != t335) t373) else (laws_FnExactCutActs.j2 kj92 t372 true t373)))) = some r := H
         have A136 := AM A1360
         clear A1360
         replace H := bm H
         obtain ⟨⟨t384, t387⟩, A1370, H⟩ := H
         replace H : ((laws_eqDisk.f kj92 t384 t332).bind fun t389 => (if t389 = true then (laws_FnExactCutActs.j2 kj92 t372 (t387 != t335) t373) else (laws_FnExactCutActs.j2 kj92 t372 true t373))) = some r := H
         have A137 := AM A1370
         clear A1370
         have HC138 := AM H
         clear H
         have hnb139 := NB351_320.out
         have hnc139 := NB320_351.out
         have hnb140 := NB351_336.out
         have hnc140 := NB336_351.out
         have hnb141 := NB351_340.out
         have hnc141 := NB340_351.out
         have hcz142_0 := bv BK351 0 (.slice Ao57 t347.length co57)
         have hfz142_0 := bz BK351 0
         go_upto_region 38 with (first | ((with_reducible refine gc 20 rfl ?_); refine goesL_ (some 108) rfl rfl Try.func20 (by kernel_rfl) rfl #[.agg #[.slice Ao57 t347.length co57], .int .i64 1] rfl am ?_; (with_reducible refine (laws_markDisk.calls kj92 (fun k_ => some k_ = (.slice Ao57 t347.length co57 : Value).ownBlock) (.slice Ao57 t347.length co57) t347 1 t372 t373 w _ ?side1 ?side2 A130.out).mono ?_); (case side1 => repeat (first | (with_reducible first | exact HB.out | apply bA | apply bN | apply bD | refine below_set ?_ GE320.out | refine below_set ?_ GE336.out | refine below_set ?_ GE340.out | refine below_set ?_ GE351.out) | exact HB.out)); (case side2 => exact Kd.R_tight rfl HO_352000.out); rintro e w143 ⟨rfl, hy0, hb, hkp⟩; refine ⟨_, rfl, ?_⟩; replace HO_337000 := AM (Kd.R_mono (ok' := fun k_ => some k_ ≠ (.slice Ao46 t366.length co46 : Value).ownBlock ∧ some k_ ≠ (.slice Ao57 t347.length co57 : Value).ownBlock) (Kd.R_keptB (HO_337000.out) hkp (fun k_ hk_ hs_ => (hk_.2) hs_)) (fun k_ hk_ => ⟨hk_.1.1, hk_.1.2⟩)); replace HO_341000 := AM (Kd.R_mono (ok' := fun k_ => some k_ ≠ (.slice Ao40 t332.length co40 : Value).ownBlock ∧ some k_ ≠ (.slice Ao57 t347.length co57 : Value).ownBlock) (Kd.R_keptB (HO_341000.out) hkp (fun k_ hk_ hs_ => (hk_.2) hs_)) (fun k_ hk_ => ⟨hk_.1.1, hk_.1.2⟩)); replace BK320 := AM (blk_kept (bk BK320) hkp (fun hs_ => (fun e_ => (Kd.R_ne HO_352000.out BK320.out (by decide)) e_) hs_)); replace BK336 := AM (blk_kept (bk BK336) hkp (fun hs_ => (fun e_ => (Kd.R_ne HO_352000.out BK336.out (by decide)) e_) hs_)); replace BK340 := AM (blk_kept (bk BK340) hkp (fun hs_ => (fun e_ => (Kd.R_ne HO_352000.out BK340.out (by decide)) e_) hs_)); replace BK351 := AM (blk_kept (bk BK351) hkp (fun hs_ => (fun e_ => (Kd.R_ne HO_352000.out BK351.out (by decide)) e_) hs_)); replace HO_352000 := AM (Kd.R_reok rfl hy0 (fun k_ e_ => HO_352000.out.1 k_ e_)); replace HB := AM (hb); (try clear hb); (try clear hkp); (try clear hy0); have hcz144_0 := bv BK351 0 (.slice Ao57 t347.length co57); have hfz144_0 := bz BK351 0) | ((with_reducible refine gc 21 rfl ?_); refine goesL_ (some 111) rfl rfl Try.func21 (by kernel_rfl) rfl #[.agg #[.slice Ao57 t373.length co57], .int .i64 1] rfl (by (try simp only [List.map_toArray, List.map_cons, List.map_nil]); first | done | (rw [show t373.length = t347.length from (Kd.R_reads' HO_352000.out).1.symm] <;> rfl) | rfl | (simp only [List.length_drop, List.length_take]; rfl)) ?_; (with_reducible refine (laws_heldDisk.calls kj92 _ _ t373 1 t374 _ ?side1 ?side2 A131.out).mono ?_); (case side1 => repeat (first | exact (Kd.R_reads' HO_352000.out).2.2 | (with_reducible first | refine cA ?_ _ | refine cN ?_ _ | refine cD ?_))); (case side2 => rw [show t373.length = t347.length from (Kd.R_reads' HO_352000.out).1.symm]; exact (Kd.R_reads' HO_352000.out).2.1); rintro e w145 ⟨rfl, hb⟩; refine ⟨_, rfl, ?_⟩; replace HO_337000 := AM (Kd.R_below (by exact HO_337000.out) hb); replace HO_341000 := AM (Kd.R_below (by exact HO_341000.out) hb); replace HO_352000 := AM (Kd.R_below (by exact HO_352000.out) hb); replace BK320 := bw BK320 hb; replace BK336 := bw BK336 hb; replace BK340 := bw BK340 hb; replace BK351 := bw BK351 hb; replace HB := AM (below_step (hS) hb); (try clear hb); have hnb146 := NB320_336.out; have hnc146 := NB336_320.out; have hnb147 := NB320_340.out; have hnc147 := NB340_320.out; have hcz148_0 := bv BK320 0 (.slice A0_0 l0_0.length c0_0); have hfz148_0 := bz BK320 0) | ((with_reducible refine gc 11 rfl ?_); refine goesL_ (some 119) rfl rfl Try.func11 (by kernel_rfl) rfl #[.agg #[.slice A0_0 l0_0.length c0_0]] rfl am ?_; (with_reducible refine (laws_toDisk.calls kj92 _ _ l0_0 t375 _ ?side1 ?side2 A134.out).mono ?_); (case side1 => repeat (first | exact (Kd.C_below HR0_0.out HB.out) | (with_reducible first | refine cA ?_ _ | refine cN ?_ _ | refine cD ?_))); (case side2 => exact HC0_0.out); rintro e w149 ⟨v376, rfl, ho0, hb⟩; refine ⟨_, rfl, ?_⟩; have HO377 := AM (Kd.R_lower (Kd.R_new' (Kd.R_new' (Kd.R_new' ho0 (Kd.R_lt (by exact HO_337000.out))) (Kd.R_lt (by exact HO_341000.out))) (Kd.R_lt (by exact HO_352000.out))) (below_size (hS))); replace HO_337000 := AM (Kd.R_elder' (by exact HO_337000.out) (Kd.R_base ho0) hb); replace HO_341000 := AM (Kd.R_elder' (by exact HO_341000.out) (Kd.R_base ho0) hb); replace HO_352000 := AM (Kd.R_elder' (by exact HO_352000.out) (Kd.R_base ho0) hb); replace BK320 := bw BK320 hb; replace BK336 := bw BK336 hb; replace BK340 := bw BK340 hb; replace BK351 := bw BK351 hb; replace HB := AM (below_step (hS) hb); (try clear hb); (try clear ho0)) | ((with_reducible refine gc 24 rfl ?_); refine goesL_ (some 121) rfl rfl Try.func24 (by kernel_rfl) rfl #[.slice A1 l1.length c1] rfl am ?_; (with_reducible refine (laws_toActS.calls kj92 _ _ l1 t378 _ ?side1 ?side2 A135.out).mono ?_); (case side1 => repeat (first | exact (Kd.C_below HR1.out HB.out) | (with_reducible first | refine cA ?_ _ | refine cN ?_ _ | refine cD ?_))); (case side2 => exact HC1.out); rintro e w150 ⟨v379, rfl, ho0, hb⟩; refine ⟨_, rfl, ?_⟩; replace HO_337000 := AM (Kd.R_below (by exact HO_337000.out) hb); replace HO_341000 := AM (Kd.R_below (by exact HO_341000.out) hb); replace HO_352000 := AM (Kd.R_below (by exact HO_352000.out) hb); replace HO377 := AM (Kd.R_below (by exact HO377.out) hb); have HO380 := AM (Kd.R_lower ho0 (below_size (hS))); replace BK320 := bw BK320 hb; replace BK336 := bw BK336 hb; replace BK340 := bw BK340 hb; replace BK351 := bw BK351 hb; replace HB := AM (below_step (hS) hb); (try clear hb); (try clear ho0)) | ((with_reducible refine gc 29 rfl ?_); refine goesL_ (some 124) rfl rfl Try.func29 (by kernel_rfl) rfl #[.slice A3 l3.length c3] rfl am ?_; (with_reducible refine (laws_toIntS.calls kj92 _ _ l3 t381 _ ?side1 ?side2 A136.out).mono ?_); (case side1 => repeat (first | exact (Kd.C_below HR3.out HB.out) | (with_reducible first | refine cA ?_ _ | refine cN ?_ _ | refine cD ?_))); (case side2 => exact HC3.out); rintro e w151 ⟨v382, rfl, ho0, hb⟩; refine ⟨_, rfl, ?_⟩; replace HO_337000 := AM (Kd.R_below (by exact HO_337000.out) hb); replace HO_341000 := AM (Kd.R_below (by exact HO_341000.out) hb); replace HO_352000 := AM (Kd.R_below (by exact HO_352000.out) hb); replace HO377 := AM (Kd.R_below (by exact HO377.out) hb); replace HO380 := AM (Kd.R_below (by exact HO380.out) hb); have HO383 := AM (Kd.R_lower ho0 (below_size (hS))); replace BK320 := bw BK320 hb; replace BK336 := bw BK336 hb; replace BK340 := bw BK340 hb; replace BK351 := bw BK351 hb; replace HB := AM (below_step (hS) hb); (try clear hb); (try clear ho0); obtain ⟨Ao152, co152, eo152⟩ := Kd.R_slice HO377.out; subst eo152; obtain ⟨Ao153, co153, eo153⟩ := Kd.R_slice HO380.out; subst eo153; obtain ⟨Ao154, co154, eo154⟩ := Kd.R_slice HO383.out; subst eo154) | ((with_reducible refine gc 30 rfl ?_); refine goesL_ (some 125) rfl rfl Try.func30 (by kernel_rfl) rfl #[.agg #[.slice Ao152 t375.length co152], .slice Ao153 t378.length co153, .int .i64 a2, .slice Ao154 t381.length co154] rfl am ?_; (with_reducible refine (impl_CutActs.calls kj92 _ _ t375 _ _ t378 a2 _ _ t381 t384 t387 _ ?side1 ?side2 ?side3 ?side4 ?side5 ?side6 A137.out).mono ?_); (case side1 => repeat (first | exact (Kd.R_reads' HO377.out).2.2 | (with_reducible first | refine cA ?_ _ | refine cN ?_ _ | refine cD ?_))); (case side2 => exact (Kd.R_reads' HO377.out).2.1); (case side3 => repeat (first | exact (Kd.R_reads' HO380.out).2.2 | (with_reducible first | refine cA ?_ _ | refine cN ?_ _ | refine cD ?_))); (case side4 => exact (Kd.R_reads' HO380.out).2.1); (case side5 => repeat (first | exact (Kd.R_reads' HO383.out).2.2 | (with_reducible first | refine cA ?_ _ | refine cN ?_ _ | refine cD ?_))); (case side6 => exact (Kd.R_reads' HO383.out).2.1); rintro e w155 ⟨v385, rfl, ho0, hb⟩; refine ⟨_, rfl, ?_⟩; replace HO380 := AM (Kd.R_below (by exact HO380.out) hb); replace HO383 := AM (Kd.R_below (by exact HO383.out) hb); have HO386 := AM (Kd.R_lower (Kd.R_new' (Kd.R_new' (Kd.R_new' (Kd.R_new' ho0 (Kd.R_lt (by exact HO_337000.out))) (Kd.R_lt (by exact HO_341000.out))) (Kd.R_lt (by exact HO_352000.out))) (Kd.R_lt (by exact HO377.out))) (below_size (hS))); replace HO_337000 := AM (Kd.R_elder' (by exact HO_337000.out) (Kd.R_base ho0) hb); replace HO_341000 := AM (Kd.R_elder' (by exact HO_341000.out) (Kd.R_base ho0) hb); replace HO_352000 := AM (Kd.R_elder' (by exact HO_352000.out) (Kd.R_base ho0) hb); replace HO377 := AM (Kd.R_elder' (by exact HO377.out) (Kd.R_base ho0) hb); replace BK320 := bw BK320 hb; replace BK336 := bw BK336 hb; replace BK340 := bw BK340 hb; replace BK351 := bw BK351 hb; replace HB := AM (below_step (hS) hb); (try clear hb); (try clear ho0)) | ((with_reducible refine gd 20 rfl ?_); refine bx (N := 20) (cs := #[.slice none 0 0]) (t := 30) ?_; intro gb388 hg w156 hbox hb; replace HO_337000 := AM (Kd.R_below (by exact HO_337000.out) hb); replace HO_341000 := AM (Kd.R_below (by exact HO_341000.out) hb); replace HO_352000 := AM (Kd.R_below (by exact HO_352000.out) hb); replace HO377 := AM (Kd.R_below (by exact HO377.out) hb); replace HO380 := AM (Kd.R_below (by exact HO380.out) hb); replace HO383 := AM (Kd.R_below (by exact HO383.out) hb); replace HO386 := AM (Kd.R_below (by exact HO386.out) hb); have BK388 := AM (hbox); have GW388 := AM (bt hg hS); have GE388 := AM (bt hg hS); replace HB := AM (below_step (hS) hb); have NB320_388 := AM (nl hg (bk BK320)); have NB388_320 := AM (ng hg (bk BK320)); replace BK320 := bw BK320 hb; have NB336_388 := AM (nl hg (bk BK336)); have NB388_336 := AM (ng hg (bk BK336)); replace BK336 := bw BK336 hb; have NB340_388 := AM (nl hg (bk BK340)); have NB388_340 := AM (ng hg (bk BK340)); replace BK340 := bw BK340 hb; have NB351_388 := AM (nl hg (bk BK351)); have NB388_351 := AM (ng hg (bk BK351)); replace BK351 := bw BK351 hb; clear hb hbox hg; obtain ⟨Ao157, co157, eo157⟩ := Kd.R_slice HO386.out; subst eo157; have hnb158 := NB388_320.out; have hnc158 := NB320_388.out; have hnb159 := NB388_336.out; have hnc159 := NB336_388.out; have hnb160 := NB388_340.out; have hnc160 := NB340_388.out; have hnb161 := NB388_351.out; have hnc161 := NB351_388.out; have hcz162_0 := bv BK388 0 (.slice none 0 0); have hfz162_0 := bz BK388 0))
         (try simp only [Act.put, qT, q0, qS])
         go_cut [136] (fun v136 wc => ∃ (kq : Nat) (x136_137 : Bool), v136 = .bool x136_137 ∧ Aside0 (laws_FnExactCutActs.j2 kq t372 x136_137 t373 = some r) ∧ Aside0 (kq ≤ kj92) ∧ Aside0 (Kd.R k67 67 wc w.heap.size (fun k_ => some k_ ≠ ((.slice Ao46 t366.length co46) : Value).ownBlock ∧ some k_ ≠ ((.slice Ao57 t347.length co57) : Value).ownBlock ∧ some k_ ≠ ((.slice Ao157 t384.length co157) : Value).ownBlock) (.slice Ao40 t332.length co40) t332) ∧ Aside0 (Kd.R k67 67 wc w.heap.size (fun k_ => some k_ ≠ ((.slice Ao40 t332.length co40) : Value).ownBlock ∧ some k_ ≠ ((.slice Ao57 t347.length co57) : Value).ownBlock ∧ some k_ ≠ ((.slice Ao157 t384.length co157) : Value).ownBlock) (.slice Ao46 t366.length co46) t366) ∧ Aside0 (Kd.R k67 67 wc w.heap.size (fun k_ => some k_ ≠ ((.slice Ao40 t332.length co40) : Value).ownBlock ∧ some k_ ≠ ((.slice Ao46 t366.length co46) : Value).ownBlock ∧ some k_ ≠ ((.slice Ao157 t384.length co157) : Value).ownBlock) (.slice Ao57 t347.length co57) t373) ∧ Aside0 (Kd.R k67 67 wc w.heap.size (fun k_ => some k_ ≠ ((.slice Ao40 t332.length co40) : Value).ownBlock ∧ some k_ ≠ ((.slice Ao46 t366.length co46) : Value).ownBlock ∧ some k_ ≠ ((.slice Ao57 t347.length co57) : Value).ownBlock) (.slice Ao157 t384.length co157) t384) ∧ Aside0 (wc.heap[gb320]? = some (.cells #[(.slice A0_0 l0_0.length c0_0)] 24 (0, 0))) ∧ Aside0 (wc.heap[gb336]? = some (.cells #[(.slice Ao40 t332.length co40)] 30 (0, 0))) ∧ Aside0 (wc.heap[gb340]? = some (.cells #[(.slice Ao46 t366.length co46)] 30 (0, 0))) ∧ Aside0 (wc.heap[gb351]? = some (.cells #[(.slice Ao57 t347.length co57)] 30 (0, 0))) ∧ Aside0 (wc.heap[gb388]? = some (.cells #[(.slice Ao157 t384.length co157)] 30 (0, 0))) ∧ Aside0 (Below w.heap.size w wc))
         case first =>
          have H := HC138.out
          clear HC138
          replace H := bm H
          obtain ⟨t389, A1630, H⟩ := H
          replace H : (if t389 = true then (laws_FnExactCutActs.j2 kj92 t372 (t387 != t335) t373) else (laws_FnExactCutActs.j2 kj92 t372 true t373)) = some r := H
          have A163 := AM A1630
          clear A1630
          by_cases c164 : t389 = true
          ·subst c164
           have H1 : (laws_FnExactCutActs.j2 kj92 t372 (t387 != t335) t373) = some r := by rw [if_pos rfl] at H; exact H
           clear H
           have H := H1
           clear H1
           have H' := AM H
           clear H
           have hnb165 := NB388_320.out
           have hnc165 := NB320_388.out
           have hnb166 := NB388_336.out
           have hnc166 := NB336_388.out
           have hnb167 := NB388_340.out
           have hnc167 := NB340_388.out
           have hnb168 := NB388_351.out
           have hnc168 := NB351_388.out
           have hcz169_0 := bv BK388 0 (.slice none 0 0)
           have hfz169_0 := bz BK388 0
           have hnb170 := NB336_320.out
           have hnc170 := NB320_336.out
           have hnb171 := NB336_340.out
           have hnc171 := NB340_336.out
           have hnb172 := NB336_351.out
           have hnc172 := NB351_336.out
           have hcz173_0 := bv BK336 0 (.slice Ao40 t332.length co40)
           have hfz173_0 := bz BK336 0
           go_wp2_with (first | ((with_reducible refine gc 13 rfl ?_); refine goesL_ (some 130) rfl rfl Try.func13 (by kernel_rfl) rfl #[.agg #[.slice Ao157 t384.length co157], .agg #[.slice Ao40 t332.length co40]] rfl am ?_; (with_reducible refine (laws_eqDisk.calls kj92 _ _ t384 _ _ t332 true _ ?side1 ?side2 ?side3 ?side4 A163.out).mono ?_); (case side1 => refine (Kd.R_reads' (e := 67) (base := w.heap.size) (ok := fun k_ => ((((True ∧ some k_ ≠ (.slice Ao40 t332.length co40 : Value).ownBlock) ∧ some k_ ≠ (.slice Ao46 t366.length co46 : Value).ownBlock) ∧ some k_ ≠ (.slice Ao57 t347.length co57 : Value).ownBlock) ∧ some k_ ≠ (.slice Ao152 t375.length co152 : Value).ownBlock)) (n := t384.length) (c := co157) ?_).2.2; exact (by exact (Kd.R_mono (Kd.R_far (p := ⟨gb388, 0, none⟩) (Kd.R_types HO386.out BK388.out (by decide)) (fun _ hk => hk.2) (.slice Ao157 t384.length co157)) (fun _ h_ => h_.1)))); (case side2 => exact (Kd.R_reads' HO386.out).2.1); (case side3 => refine (Kd.R_reads' (e := 67) (base := w.heap.size) (ok := fun k_ => (((some k_ ≠ (.slice Ao46 t366.length co46 : Value).ownBlock ∧ some k_ ≠ (.slice Ao57 t347.length co57 : Value).ownBlock) ∧ some k_ ≠ (.slice Ao152 t375.length co152 : Value).ownBlock) ∧ some k_ ≠ (.slice Ao157 t384.length co157 : Value).ownBlock)) (n := t332.length) (c := co40) ?_).2.2; exact (by exact (Kd.R_mono (Kd.R_far (p := ⟨gb388, 0, none⟩) (Kd.R_types HO_337000.out BK388.out (by decide)) (fun _ hk => hk.2) (.slice Ao157 t384.length co157)) (fun _ h_ => h_.1)))); (case side4 => exact (Kd.R_reads' HO_337000.out).2.1); rintro e w174 ⟨rfl, hb⟩; refine ⟨_, rfl, ?_⟩; have n0_ := AM (Kd.R_below (by exact (Kd.R_mono (Kd.R_far (p := ⟨gb388, 0, none⟩) (Kd.R_types HO_337000.out BK388.out (by decide)) (fun _ hk => hk.2) (.slice Ao157 t384.length co157)) (fun _ h_ => h_.1))) hb); have n1_ := AM (Kd.R_below (by exact (Kd.R_mono (Kd.R_far (p := ⟨gb388, 0, none⟩) (Kd.R_types HO_341000.out BK388.out (by decide)) (fun _ hk => hk.2) (.slice Ao157 t384.length co157)) (fun _ h_ => h_.1))) hb); have n2_ := AM (Kd.R_below (by exact (Kd.R_mono (Kd.R_far (p := ⟨gb388, 0, none⟩) (Kd.R_types HO_352000.out BK388.out (by decide)) (fun _ hk => hk.2) (.slice Ao157 t384.length co157)) (fun _ h_ => h_.1))) hb); have n3_ := AM (Kd.R_below (by exact (Kd.R_mono (Kd.R_far (p := ⟨gb388, 0, none⟩) (Kd.R_types HO377.out BK388.out (by decide)) (fun _ hk => hk.2) (.slice Ao157 t384.length co157)) (fun _ h_ => h_.1))) hb); have n4_ := AM (Kd.R_below (by exact (Kd.R_mono (Kd.R_far (p := ⟨gb388, 0, none⟩) (Kd.R_types HO380.out BK388.out (by decide)) (fun _ hk => hk.2) (.slice Ao157 t384.length co157)) (fun _ h_ => h_.1))) hb); have n5_ := AM (Kd.R_below (by exact (Kd.R_mono (Kd.R_far (p := ⟨gb388, 0, none⟩) (Kd.R_types HO383.out BK388.out (by decide)) (fun _ hk => hk.2) (.slice Ao157 t384.length co157)) (fun _ h_ => h_.1))) hb); have n6_ := AM (Kd.R_below (by exact (Kd.R_mono (Kd.R_far (p := ⟨gb388, 0, none⟩) (Kd.R_types HO386.out BK388.out (by decide)) (fun _ hk => hk.2) (.slice Ao157 t384.length co157)) (fun _ h_ => h_.1))) hb); have n7_ := AM (blk_below (g := gb320) (o := .cells #[.slice A0_0 l0_0.length c0_0] 24 (0, 0)) (be) hb); have n8_ := AM (blk_below (g := gb336) (o := .cells #[.slice Ao40 t332.length co40] 30 (0, 0)) (be) hb); have n9_ := AM (blk_below (g := gb340) (o := .cells #[.slice Ao46 t366.length co46] 30 (0, 0)) (be) hb); have n10_ := AM (blk_below (g := gb351) (o := .cells #[.slice Ao57 t347.length co57] 30 (0, 0)) (be) hb); have n11_ := AM (blk_below (g := gb388) (o := .cells #[.slice Ao157 t384.length co157] 30 (0, 0)) (by (with_reducible repeat first | apply aN | apply aD | apply aA); refine blk_put (cs := #[.slice none 0 0]) ?_ 0 _ rfl; exact bk BK388) hb); have n12_ := AM (below_step (hS) hb); clear HO_337000; clear HO_341000; clear HO_352000; clear HO377; clear HO380; clear HO383; clear HO386; clear BK320; clear BK336; clear BK340; clear BK351; clear BK388; clear HB; have HO_337000 := n0_; have HO_341000 := n1_; have HO_352000 := n2_; have HO377 := n3_; have HO380 := n4_; have HO383 := n5_; have HO386 := n6_; have BK320 := n7_; have BK336 := n8_; have BK340 := n9_; have BK351 := n10_; have BK388 := n11_; have HB := n12_; clear n0_ n1_ n2_ n3_ n4_ n5_ n6_ n7_ n8_ n9_ n10_ n11_ n12_; (try clear hb); (try clear hk)))
           go_meet
           case rel => exact ⟨_, ((t387 != t335)), sf, H', ⟨by have := HJ25.out; have := HJ92.out; first | omega | exact Nat.le_refl _⟩, ⟨by (try simp only [hl341000_92]); exact Kd.R_mono HO_337000.out (fun _ hk => ⟨hk.1.1.1, ⟨hk.1.1.2, hk.2⟩⟩)⟩, ⟨by (try simp only [hl341000_92]); exact Kd.R_mono HO_341000.out (fun _ hk => ⟨hk.1.1.1, ⟨hk.1.1.2, hk.2⟩⟩)⟩, ⟨by (try simp only [hl341000_92]); exact Kd.R_mono HO_352000.out (fun _ hk => ⟨hk.1.1.1, ⟨hk.1.1.2, hk.2⟩⟩)⟩, ⟨by (try simp only [hl341000_92]); exact Kd.R_mono HO386.out (fun _ hk => ⟨hk.1.1.1.2, ⟨hk.1.1.2, hk.1.2⟩⟩)⟩, ⟨by (try simp only [hl341000_92]); exact bk BK320⟩, ⟨by (try simp only [hl341000_92]); exact bk BK336⟩, ⟨by (try simp only [hl341000_92]); exact bk BK340⟩, ⟨by (try simp only [hl341000_92]); exact bk BK351⟩, ⟨by (try simp only [hl341000_92]); exact bk BK388⟩, ⟨hS⟩⟩
          replace c164 := Bool.eq_false_iff.mpr c164
          subst c164
          have H1 : (laws_FnExactCutActs.j2 kj92 t372 true t373) = some r := by rw [if_neg (show ¬ (false = true) by decide)] at H; exact H
          clear H
          have H := H1
          clear H1
          have H' := AM H
          clear H
          have hnb175 := NB388_320.out
          have hnc175 := NB320_388.out
          have hnb176 := NB388_336.out
          have hnc176 := NB336_388.out
          have hnb177 := NB388_340.out
          have hnc177 := NB340_388.out
          have hnb178 := NB388_351.out
          have hnc178 := NB351_388.out
          have hcz179_0 := bv BK388 0 (.slice none 0 0)
          have hfz179_0 := bz BK388 0
          have hnb180 := NB336_320.out
          have hnc180 := NB320_336.out
          have hnb181 := NB336_340.out
          have hnc181 := NB340_336.out
          have hnb182 := NB336_351.out
          have hnc182 := NB351_336.out
          have hcz183_0 := bv BK336 0 (.slice Ao40 t332.length co40)
          have hfz183_0 := bz BK336 0
          go_wp2_with (first | ((with_reducible refine gc 13 rfl ?_); refine goesL_ (some 130) rfl rfl Try.func13 (by kernel_rfl) rfl #[.agg #[.slice Ao157 t384.length co157], .agg #[.slice Ao40 t332.length co40]] rfl am ?_; (with_reducible refine (laws_eqDisk.calls kj92 _ _ t384 _ _ t332 false _ ?side1 ?side2 ?side3 ?side4 A163.out).mono ?_); (case side1 => refine (Kd.R_reads' (e := 67) (base := w.heap.size) (ok := fun k_ => ((((True ∧ some k_ ≠ (.slice Ao40 t332.length co40 : Value).ownBlock) ∧ some k_ ≠ (.slice Ao46 t366.length co46 : Value).ownBlock) ∧ some k_ ≠ (.slice Ao57 t347.length co57 : Value).ownBlock) ∧ some k_ ≠ (.slice Ao152 t375.length co152 : Value).ownBlock)) (n := t384.length) (c := co157) ?_).2.2; exact (by exact (Kd.R_mono (Kd.R_far (p := ⟨gb388, 0, none⟩) (Kd.R_types HO386.out BK388.out (by decide)) (fun _ hk => hk.2) (.slice Ao157 t384.length co157)) (fun _ h_ => h_.1)))); (case side2 => exact (Kd.R_reads' HO386.out).2.1); (case side3 => refine (Kd.R_reads' (e := 67) (base := w.heap.size) (ok := fun k_ => (((some k_ ≠ (.slice Ao46 t366.length co46 : Value).ownBlock ∧ some k_ ≠ (.slice Ao57 t347.length co57 : Value).ownBlock) ∧ some k_ ≠ (.slice Ao152 t375.length co152 : Value).ownBlock) ∧ some k_ ≠ (.slice Ao157 t384.length co157 : Value).ownBlock)) (n := t332.length) (c := co40) ?_).2.2; exact (by exact (Kd.R_mono (Kd.R_far (p := ⟨gb388, 0, none⟩) (Kd.R_types HO_337000.out BK388.out (by decide)) (fun _ hk => hk.2) (.slice Ao157 t384.length co157)) (fun _ h_ => h_.1)))); (case side4 => exact (Kd.R_reads' HO_337000.out).2.1); rintro e w184 ⟨rfl, hb⟩; refine ⟨_, rfl, ?_⟩; have n0_ := AM (Kd.R_below (by exact (Kd.R_mono (Kd.R_far (p := ⟨gb388, 0, none⟩) (Kd.R_types HO_337000.out BK388.out (by decide)) (fun _ hk => hk.2) (.slice Ao157 t384.length co157)) (fun _ h_ => h_.1))) hb); have n1_ := AM (Kd.R_below (by exact (Kd.R_mono (Kd.R_far (p := ⟨gb388, 0, none⟩) (Kd.R_types HO_341000.out BK388.out (by decide)) (fun _ hk => hk.2) (.slice Ao157 t384.length co157)) (fun _ h_ => h_.1))) hb); have n2_ := AM (Kd.R_below (by exact (Kd.R_mono (Kd.R_far (p := ⟨gb388, 0, none⟩) (Kd.R_types HO_352000.out BK388.out (by decide)) (fun _ hk => hk.2) (.slice Ao157 t384.length co157)) (fun _ h_ => h_.1))) hb); have n3_ := AM (Kd.R_below (by exact (Kd.R_mono (Kd.R_far (p := ⟨gb388, 0, none⟩) (Kd.R_types HO377.out BK388.out (by decide)) (fun _ hk => hk.2) (.slice Ao157 t384.length co157)) (fun _ h_ => h_.1))) hb); have n4_ := AM (Kd.R_below (by exact (Kd.R_mono (Kd.R_far (p := ⟨gb388, 0, none⟩) (Kd.R_types HO380.out BK388.out (by decide)) (fun _ hk => hk.2) (.slice Ao157 t384.length co157)) (fun _ h_ => h_.1))) hb); have n5_ := AM (Kd.R_below (by exact (Kd.R_mono (Kd.R_far (p := ⟨gb388, 0, none⟩) (Kd.R_types HO383.out BK388.out (by decide)) (fun _ hk => hk.2) (.slice Ao157 t384.length co157)) (fun _ h_ => h_.1))) hb); have n6_ := AM (Kd.R_below (by exact (Kd.R_mono (Kd.R_far (p := ⟨gb388, 0, none⟩) (Kd.R_types HO386.out BK388.out (by decide)) (fun _ hk => hk.2) (.slice Ao157 t384.length co157)) (fun _ h_ => h_.1))) hb); have n7_ := AM (blk_below (g := gb320) (o := .cells #[.slice A0_0 l0_0.length c0_0] 24 (0, 0)) (be) hb); have n8_ := AM (blk_below (g := gb336) (o := .cells #[.slice Ao40 t332.length co40] 30 (0, 0)) (be) hb); have n9_ := AM (blk_below (g := gb340) (o := .cells #[.slice Ao46 t366.length co46] 30 (0, 0)) (be) hb); have n10_ := AM (blk_below (g := gb351) (o := .cells #[.slice Ao57 t347.length co57] 30 (0, 0)) (be) hb); have n11_ := AM (blk_below (g := gb388) (o := .cells #[.slice Ao157 t384.length co157] 30 (0, 0)) (by (with_reducible repeat first | apply aN | apply aD | apply aA); refine blk_put (cs := #[.slice none 0 0]) ?_ 0 _ rfl; exact bk BK388) hb); have n12_ := AM (below_step (hS) hb); clear HO_337000; clear HO_341000; clear HO_352000; clear HO377; clear HO380; clear HO383; clear HO386; clear BK320; clear BK336; clear BK340; clear BK351; clear BK388; clear HB; have HO_337000 := n0_; have HO_341000 := n1_; have HO_352000 := n2_; have HO377 := n3_; have HO380 := n4_; have HO383 := n5_; have HO386 := n6_; have BK320 := n7_; have BK336 := n8_; have BK340 := n9_; have BK351 := n10_; have BK388 := n11_; have HB := n12_; clear n0_ n1_ n2_ n3_ n4_ n5_ n6_ n7_ n8_ n9_ n10_ n11_ n12_; (try clear hb); (try clear hk)))
          go_meet
          case rel => exact ⟨_, (true), sf, H', ⟨by have := HJ25.out; have := HJ92.out; first | omega | exact Nat.le_refl _⟩, ⟨by (try simp only [hl341000_92]); exact Kd.R_mono HO_337000.out (fun _ hk => ⟨hk.1.1.1, ⟨hk.1.1.2, hk.2⟩⟩)⟩, ⟨by (try simp only [hl341000_92]); exact Kd.R_mono HO_341000.out (fun _ hk => ⟨hk.1.1.1, ⟨hk.1.1.2, hk.2⟩⟩)⟩, ⟨by (try simp only [hl341000_92]); exact Kd.R_mono HO_352000.out (fun _ hk => ⟨hk.1.1.1, ⟨hk.1.1.2, hk.2⟩⟩)⟩, ⟨by (try simp only [hl341000_92]); exact Kd.R_mono HO386.out (fun _ hk => ⟨hk.1.1.1.2, ⟨hk.1.1.2, hk.1.2⟩⟩)⟩, ⟨by (try simp only [hl341000_92]); exact bk BK320⟩, ⟨by (try simp only [hl341000_92]); exact bk BK336⟩, ⟨by (try simp only [hl341000_92]); exact bk BK340⟩, ⟨by (try simp only [hl341000_92]); exact bk BK351⟩, ⟨by (try simp only [hl341000_92]); exact bk BK388⟩, ⟨hS⟩⟩
         case rest =>
          clear HC138
          obtain ⟨kq, x136_137, rfl, HA, HJ137, HO_337000, HO_341000, HO_352000, HO_389000, BK320, BK336, BK340, BK351, BK388, HB⟩ := hcut
          have hl352000_137 := (Kd.R_reads' HO_352000.out).1
          rw [hl352000_137] at HO_352000
          (try simp only [hl352000_137])
          (try simp only [hl352000_137] at BK320)
          (try simp only [hl352000_137] at BK336)
          (try simp only [hl352000_137] at BK340)
          (try simp only [hl352000_137] at BK351)
          (try simp only [hl352000_137] at BK388)
          (try simp only [hl352000_137] at HO_337000)
          (try simp only [hl352000_137] at HO_341000)
          (try simp only [hl352000_137] at HO_389000)
          cases kq with
          | zero => exact absurd HA.out (by simp [laws_FnExactCutActs.j2])
          | succ kj137 =>
           have H := HA.out
           clear HA
           simp only [laws_FnExactCutActs.j2] at H
           by_cases c185 : x136_137 = true
           ·subst c185
            have H1 : (some false) = some r := by rw [if_pos rfl] at H; exact H
            clear H
            have H := H1
            clear H1
            exact absurd ((Option.some.inj H).trans hT.out) (by decide)
           replace c185 := Bool.eq_false_iff.mpr c185
           subst c185
           have H1 : ((laws_heldDisk.f kj137 t373 1).bind fun t390 => (if t390 < 0 then (some false) else (if t390 = t372 then (some true) else (some false)))) = some r := by rw [if_neg (show ¬ (false = true) by decide)] at H; exact H
           clear H
           have H := H1
           clear H1
           replace H := bm H
           obtain ⟨t390, A1860, H⟩ := H
           replace H : (if t390 < 0 then (some false) else (if t390 = t372 then (some true) else (some false))) = some r := H
           have A186 := AM A1860
           clear A1860
           by_cases c187 : t390 < 0
           ·rw [if_pos c187] at H
            have c187b0 : decide (t390 < 0) = true := decide_eq_true c187
            clear c187
            exact absurd ((Option.some.inj H).trans hT.out) (by decide)
           rw [if_neg c187] at H
           have c187b0 : decide (t390 < 0) = false := decide_eq_false c187
           clear c187
           by_cases c188 : t390 = t372
           ·rw [if_pos c188] at H
            have c188b0 : (t390 == t372) = true := beq_iff_eq.mpr c188
            have c188b1 : (t390 != t372) = false := bne_eq_false_iff_eq.mpr c188
            clear c188
            obtain rfl := Option.some.inj H
            have hnb189 := NB351_320.out
            have hnc189 := NB320_351.out
            have hnb190 := NB351_336.out
            have hnc190 := NB336_351.out
            have hnb191 := NB351_340.out
            have hnc191 := NB340_351.out
            have hnb192 := NB351_388.out
            have hnc192 := NB388_351.out
            have hcz193_0 := bv BK351 0 (.slice Ao57 t373.length co57)
            have hfz193_0 := bz BK351 0
            go_wp2_with (first | ((with_reducible refine gc 21 rfl ?_); refine goesL_ (some 139) rfl rfl Try.func21 (by kernel_rfl) rfl #[.agg #[.slice Ao57 t373.length co57], .int .i64 1] rfl am ?_; (with_reducible refine (laws_heldDisk.calls kj137 _ _ t373 1 t390 _ ?side1 ?side2 A186.out).mono ?_); (case side1 => repeat (first | exact (Kd.R_reads' HO_352000.out).2.2 | (with_reducible first | refine cA ?_ _ | refine cN ?_ _ | refine cD ?_))); (case side2 => exact (Kd.R_reads' HO_352000.out).2.1); rintro e w194 ⟨rfl, hb⟩; refine ⟨_, rfl, ?_⟩; replace HO_337000 := AM (Kd.R_below (by exact HO_337000.out) hb); replace HO_341000 := AM (Kd.R_below (by exact HO_341000.out) hb); replace HO_352000 := AM (Kd.R_below (by exact HO_352000.out) hb); replace HO_389000 := AM (Kd.R_below (by exact HO_389000.out) hb); replace BK320 := bw BK320 hb; replace BK336 := bw BK336 hb; replace BK340 := bw BK340 hb; replace BK351 := bw BK351 hb; replace BK388 := bw BK388 hb; replace HB := AM (below_step (hS) hb); (try clear hb)))
            go_ret
            exact ⟨er, hS⟩
           rw [if_neg c188] at H
           have c188b0 : (t390 == t372) = false := beq_eq_false_iff_ne.mpr c188
           have c188b1 : (t390 != t372) = true := bne_iff_ne.mpr c188
           exact absurd ((Option.some.inj H).trans hT.out) (by decide)
        rw [if_neg c133] at H
        have c133b0 : (t374 == t372) = false := beq_eq_false_iff_ne.mpr c133
        have c133b1 : (t374 != t372) = true := bne_iff_ne.mpr c133
        exact absurd ((Option.some.inj H).trans hT.out) (by decide)
     replace c89 := Bool.eq_false_iff.mpr c89
     subst c89
     have H1 : (some false) = some r := by rw [if_neg (show ¬ (false = true) by decide)] at H; exact H
     clear H
     have H := H1
     clear H1
     exact absurd ((Option.some.inj H).trans hT.out) (by decide)
    replace c86 := Bool.eq_false_iff.mpr c86
    subst c86
    have H1 : (some false) = some r := by rw [if_neg (show ¬ (false = true) by decide)] at H; exact H
    clear H
    have H := H1
    clear H1
    exact absurd ((Option.some.inj H).trans hT.out) (by decide)
   replace c83 := Bool.eq_false_iff.mpr c83
   subst c83
   have H1 : (some false) = some r := by rw [if_neg (show ¬ (false = true) by decide)] at H; exact H
   clear H
   have H := H1
   clear H1
   exact absurd ((Option.some.inj H).trans hT.out) (by decide)

/-- THE ONE PURE STATEMENT of laws_FnExactCutActs. -/
def laws_FnExactCutActs.Pure : Prop := ∀ (l0_0 : List (S91)) (l1 : List (S37)) (a2 : Int) (l3 : List Int), (Wide.WfList (fun y : S91 => Wide.WfStr y.f0 ∧ Wide.WfStr y.f1 ∧ (Wide.WfInt .i64) y.f2)) l0_0 → (Wide.WfList (fun y : S37 => (Wide.WfInt .i64) y.f0 ∧ Wide.WfStr y.f1 ∧ Wide.WfStr y.f2 ∧ Wide.WfStr y.f3)) l1 → (Lit.int .i64 a2).wf = true → (Wide.WfList (Wide.WfInt .i64)) l3 → ∃ k, laws_FnExactCutActs.f k l0_0 l1 a2 l3 = some true

end Go.Proofs.Ytnkldnkolcighaa.XFnExactCutActs
