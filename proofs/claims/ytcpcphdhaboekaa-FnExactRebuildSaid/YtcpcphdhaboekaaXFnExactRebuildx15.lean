import Derived.Test.YtcpcphdhaboekaaXFnExactRebuildx0
import Derived.Test.YtcpcphdhaboekaaXFnExactRebuildx7
import Derived.Test.YtcpcphdhaboekaaXFnExactRebuildx8
import Derived.Test.YtcpcphdhaboekaaXFnExactRebuildx14
namespace Go.Proofs.Ytcpcphdhaboekaa.XFnExactRebuild
open Go.RowKit Go.Proofs.YtcpcphdhaboekaaU.PrintWords Go.Proofs.YtcpcphdhaboekaaU.PrintLast Go.Proofs.YtcpcphdhaboekaaU.PrintMore
attribute [local go_sem] max2_int min2_int max_two min_two max_three min_three max_four min_four
set_option linter.unusedVariables false
set_option linter.unusedSimpArgs false
mutual
def laws_FnExactRebuild.j0 : Nat → Int → List ByteArray → List Bool → List ByteArray → Bool → List ByteArray → List Bool → List ByteArray → Bool → Bool → Option (Bool)
 | 0, _, _, _, _, _, _, _, _, _, _ => none
 | k + 1, x0, x1, x2, x8, x9, x10, x11, x12, x13, x55 => if x55 = true then (some false) else ((laws_toStringS.f k x1).bind fun t523 => ((laws_eqStringS.f k x10 t523).bind fun t526 => (if t526 = true then ((laws_toBoolS.f k x2).bind fun t527 => ((laws_eqBoolS.f k x11 t527).bind fun t530 => (if t530 = true then ((laws_markStringS.f k x10 1).bind fun bt531 => ((laws_markBoolS.f k x11 bt531.1).bind fun bt533 => (if bt533.1 < 0 then (laws_FnExactRebuild.j1 k x0 x1 x2 x8 x9 x12 true) else ((laws_eqStringS.f k x12 x8).bind fun t535 => (if t535 = true then (laws_FnExactRebuild.j1 k x0 x1 x2 x8 x9 x12 (x13 != x9)) else (laws_FnExactRebuild.j1 k x0 x1 x2 x8 x9 x12 true)))))) else (some false)))) else (some false))))
def laws_FnExactRebuild.j1 : Nat → Int → List ByteArray → List Bool → List ByteArray → Bool → List ByteArray → Bool → Option (Bool)
 | 0, _, _, _, _, _, _, _ => none
 | k + 1, x0, x1, x2, x8, x9, x12, x84 => if x84 = true then (some false) else ((laws_markStringS.f k x12 1).bind fun bt536 => ((laws_heldStringS.f k bt536.2 1).bind fun t538 => (if t538 < 0 then (some false) else (if t538 = bt536.1 then ((laws_toStringS.f k x1).bind fun t539 => ((laws_toBoolS.f k x2).bind fun t542 => ((impl_Rebuild.f k x0 t539 t542).bind fun bt545 => ((laws_eqStringS.f k bt545.1 x8).bind fun t549 => (if t549 = true then (laws_FnExactRebuild.j2 k bt536.2 bt536.1 (bt545.2 != x9)) else (laws_FnExactRebuild.j2 k bt536.2 bt536.1 true)))))) else (some false)))))
def laws_FnExactRebuild.j2 : Nat → List ByteArray → Int → Bool → Option (Bool)
 | 0, _, _, _ => none
 | k + 1, x12, x15, x113 => if x113 = true then (some false) else ((laws_heldStringS.f k x12 1).bind fun t550 => (if t550 < 0 then (some false) else (if t550 = x15 then (some true) else (some false))))
end
def laws_FnExactRebuild.f (k : Nat) (a0 : Int) (l1 : List ByteArray) (l2 : List Bool) : Option (Bool) := if (l2.length : Int) > 1048576 then (some true) else ((laws_szStringS.f k l1 1048576).bind fun t501 => (if t501 < 0 then (some true) else ((laws_toStringS.f k l1).bind fun t502 => ((laws_toBoolS.f k l2).bind fun t505 => ((spec_Rebuild.f k a0 t502 t505).bind fun bt508 => ((laws_toStringS.f k l1).bind fun t512 => ((laws_toBoolS.f k l2).bind fun t515 => ((impl_Rebuild.f k a0 t512 t515).bind fun bt518 => ((laws_eqStringS.f k bt518.1 bt508.1).bind fun t522 => (if t522 = true then (laws_FnExactRebuild.j0 k a0 l1 l2 bt508.1 bt508.2 t512 t515 bt518.1 bt518.2 (bt518.2 != bt508.2)) else (laws_FnExactRebuild.j0 k a0 l1 l2 bt508.1 bt508.2 t512 t515 bt518.1 bt518.2 true)))))))))))
theorem laws_FnExactRebuild.mono_l : ∀ k, (∀ y0 y1 y2 y3 y4 y5 y6 y7 y8 y9, LeO (laws_FnExactRebuild.j0 k y0 y1 y2 y3 y4 y5 y6 y7 y8 y9) (laws_FnExactRebuild.j0 (k + 1) y0 y1 y2 y3 y4 y5 y6 y7 y8 y9)) ∧ (∀ y0 y1 y2 y3 y4 y5 y6, LeO (laws_FnExactRebuild.j1 k y0 y1 y2 y3 y4 y5 y6) (laws_FnExactRebuild.j1 (k + 1) y0 y1 y2 y3 y4 y5 y6)) ∧ (∀ y0 y1 y2, LeO (laws_FnExactRebuild.j2 k y0 y1 y2) (laws_FnExactRebuild.j2 (k + 1) y0 y1 y2))
 | 0 => ⟨fun _ _ _ _ _ _ _ _ _ _ r h => by simp [laws_FnExactRebuild.j0] at h, fun _ _ _ _ _ _ _ r h => by simp [laws_FnExactRebuild.j1] at h, fun _ _ _ r h => by simp [laws_FnExactRebuild.j2] at h⟩
 | k + 1 => by
  obtain ⟨ih0, ih1, ih2⟩ := laws_FnExactRebuild.mono_l k
  refine ⟨?_, ?_, ?_⟩
  ·intro y0 y1 y2 y3 y4 y5 y6 y7 y8 y9
   unfold laws_FnExactRebuild.j0
   repeat' first
   | (with_reducible exact ih0 _ _ _ _ _ _ _ _ _ _)
   | (with_reducible exact ih1 _ _ _ _ _ _ _)
   | (with_reducible exact ih2 _ _ _)
   | (with_reducible exact impl_Rebuild.mono _ _ _ _)
   | (with_reducible exact laws_eqBoolS.mono _ _ _)
   | (with_reducible exact laws_eqStringS.mono _ _ _)
   | (with_reducible exact laws_heldStringS.mono _ _ _)
   | (with_reducible exact laws_markBoolS.mono _ _ _)
   | (with_reducible exact laws_markStringS.mono _ _ _)
   | (with_reducible exact laws_szStringS.mono _ _ _)
   | (with_reducible exact laws_toBoolS.mono _ _)
   | (with_reducible exact laws_toStringS.mono _ _)
   | (with_reducible exact spec_Rebuild.mono _ _ _ _)
   | (with_reducible exact LeO.refl _)
   | (with_reducible exact LeO.none _)
   | (with_reducible refine LeO.ite ?_ ?_)
   | (with_reducible refine LeO.bind ?_ (fun _ => ?_))
   | exact ih0 _ _ _ _ _ _ _ _ _ _
   | exact ih1 _ _ _ _ _ _ _
   | exact ih2 _ _ _
   | exact impl_Rebuild.mono _ _ _ _
   | exact laws_eqBoolS.mono _ _ _
   | exact laws_eqStringS.mono _ _ _
   | exact laws_heldStringS.mono _ _ _
   | exact laws_markBoolS.mono _ _ _
   | exact laws_markStringS.mono _ _ _
   | exact laws_szStringS.mono _ _ _
   | exact laws_toBoolS.mono _ _
   | exact laws_toStringS.mono _ _
   | exact spec_Rebuild.mono _ _ _ _
   | exact LeO.none _
   | refine LeO.ite ?_ ?_
   | refine LeO.bind ?_ (fun _ => ?_)
  ·intro y0 y1 y2 y3 y4 y5 y6
   unfold laws_FnExactRebuild.j1
   repeat' first
   | (with_reducible exact ih0 _ _ _ _ _ _ _ _ _ _)
   | (with_reducible exact ih1 _ _ _ _ _ _ _)
   | (with_reducible exact ih2 _ _ _)
   | (with_reducible exact impl_Rebuild.mono _ _ _ _)
   | (with_reducible exact laws_eqBoolS.mono _ _ _)
   | (with_reducible exact laws_eqStringS.mono _ _ _)
   | (with_reducible exact laws_heldStringS.mono _ _ _)
   | (with_reducible exact laws_markBoolS.mono _ _ _)
   | (with_reducible exact laws_markStringS.mono _ _ _)
   | (with_reducible exact laws_szStringS.mono _ _ _)
   | (with_reducible exact laws_toBoolS.mono _ _)
   | (with_reducible exact laws_toStringS.mono _ _)
   | (with_reducible exact spec_Rebuild.mono _ _ _ _)
   | (with_reducible exact LeO.refl _)
   | (with_reducible exact LeO.none _)
   | (with_reducible refine LeO.ite ?_ ?_)
   | (with_reducible refine LeO.bind ?_ (fun _ => ?_))
   | exact ih0 _ _ _ _ _ _ _ _ _ _
   | exact ih1 _ _ _ _ _ _ _
   | exact ih2 _ _ _
   | exact impl_Rebuild.mono _ _ _ _
   | exact laws_eqBoolS.mono _ _ _
   | exact laws_eqStringS.mono _ _ _
   | exact laws_heldStringS.mono _ _ _
   | exact laws_markBoolS.mono _ _ _
   | exact laws_markStringS.mono _ _ _
   | exact laws_szStringS.mono _ _ _
   | exact laws_toBoolS.mono _ _
   | exact laws_toStringS.mono _ _
   | exact spec_Rebuild.mono _ _ _ _
   | exact LeO.none _
   | refine LeO.ite ?_ ?_
   | refine LeO.bind ?_ (fun _ => ?_)
  intro y0 y1 y2
  unfold laws_FnExactRebuild.j2
  repeat' first
  | (with_reducible exact ih0 _ _ _ _ _ _ _ _ _ _)
  | (with_reducible exact ih1 _ _ _ _ _ _ _)
  | (with_reducible exact ih2 _ _ _)
  | (with_reducible exact impl_Rebuild.mono _ _ _ _)
  | (with_reducible exact laws_eqBoolS.mono _ _ _)
  | (with_reducible exact laws_eqStringS.mono _ _ _)
  | (with_reducible exact laws_heldStringS.mono _ _ _)
  | (with_reducible exact laws_markBoolS.mono _ _ _)
  | (with_reducible exact laws_markStringS.mono _ _ _)
  | (with_reducible exact laws_szStringS.mono _ _ _)
  | (with_reducible exact laws_toBoolS.mono _ _)
  | (with_reducible exact laws_toStringS.mono _ _)
  | (with_reducible exact spec_Rebuild.mono _ _ _ _)
  | (with_reducible exact LeO.refl _)
  | (with_reducible exact LeO.none _)
  | (with_reducible refine LeO.ite ?_ ?_)
  | (with_reducible refine LeO.bind ?_ (fun _ => ?_))
  | exact ih0 _ _ _ _ _ _ _ _ _ _
  | exact ih1 _ _ _ _ _ _ _
  | exact ih2 _ _ _
  | exact impl_Rebuild.mono _ _ _ _
  | exact laws_eqBoolS.mono _ _ _
  | exact laws_eqStringS.mono _ _ _
  | exact laws_heldStringS.mono _ _ _
  | exact laws_markBoolS.mono _ _ _
  | exact laws_markStringS.mono _ _ _
  | exact laws_szStringS.mono _ _ _
  | exact laws_toBoolS.mono _ _
  | exact laws_toStringS.mono _ _
  | exact spec_Rebuild.mono _ _ _ _
  | exact LeO.none _
  | refine LeO.ite ?_ ?_
  | refine LeO.bind ?_ (fun _ => ?_)
theorem laws_FnExactRebuild.mono : ∀ a0 a1 a2 k, LeO (laws_FnExactRebuild.f k a0 a1 a2) (laws_FnExactRebuild.f (k + 1) a0 a1 a2) := by
 intro a0 a1 a2 k
 obtain ⟨ih0, ih1, ih2⟩ := laws_FnExactRebuild.mono_l k
 unfold laws_FnExactRebuild.f
 repeat' first
   | (with_reducible exact ih0 _ _ _ _ _ _ _ _ _ _)
   | (with_reducible exact ih1 _ _ _ _ _ _ _)
   | (with_reducible exact ih2 _ _ _)
   | (with_reducible exact impl_Rebuild.mono _ _ _ _)
   | (with_reducible exact laws_eqBoolS.mono _ _ _)
   | (with_reducible exact laws_eqStringS.mono _ _ _)
   | (with_reducible exact laws_heldStringS.mono _ _ _)
   | (with_reducible exact laws_markBoolS.mono _ _ _)
   | (with_reducible exact laws_markStringS.mono _ _ _)
   | (with_reducible exact laws_szStringS.mono _ _ _)
   | (with_reducible exact laws_toBoolS.mono _ _)
   | (with_reducible exact laws_toStringS.mono _ _)
   | (with_reducible exact spec_Rebuild.mono _ _ _ _)
   | (with_reducible exact LeO.refl _)
   | (with_reducible exact LeO.none _)
   | (with_reducible refine LeO.ite ?_ ?_)
   | (with_reducible refine LeO.bind ?_ (fun _ => ?_))
   | exact ih0 _ _ _ _ _ _ _ _ _ _
   | exact ih1 _ _ _ _ _ _ _
   | exact ih2 _ _ _
   | exact impl_Rebuild.mono _ _ _ _
   | exact laws_eqBoolS.mono _ _ _
   | exact laws_eqStringS.mono _ _ _
   | exact laws_heldStringS.mono _ _ _
   | exact laws_markBoolS.mono _ _ _
   | exact laws_markStringS.mono _ _ _
   | exact laws_szStringS.mono _ _ _
   | exact laws_toBoolS.mono _ _
   | exact laws_toStringS.mono _ _
   | exact spec_Rebuild.mono _ _ _ _
   | exact LeO.none _
   | refine LeO.ite ?_ ?_
   | refine LeO.bind ?_ (fun _ => ?_)
set_option maxHeartbeats 8000000 in
set_option maxRecDepth 100000 in
theorem laws_FnExactRebuild.calls (k : Nat) (a0 : Int) (A1 : Option Addr) (c1 : Nat) (l1 : List ByteArray) (A2 : Option Addr) (c2 : Nat) (l2 : List Bool) (r : Bool) (w : World) (hr1 : Kd.C Kd.string w A1 l1.length l1) (hc1 : l1.length ≤ c1) (hr2 : Kd.C Kd.bool w A2 l2.length l2) (hc2 : l2.length ≤ c2) (h : laws_FnExactRebuild.f k a0 l1 l2 = some r) :
  Calls Try.prog 6 #[.int .i64 a0, .slice A1 l1.length c1, .slice A2 l2.length c2] w fun e w' => e = .returned (.bool r) ∧ Below w.heap.size w w' := by
 have HR1 := AM hr1
 have HC1 := AM hc1
 clear hr1 hc1
 have HR2 := AM hr2
 have HC2 := AM hc2
 clear hr2 hc2
 have HB := AM (Below.refl w.heap.size w)
 have H : (if (l2.length : Int) > 1048576 then (some true) else ((laws_szStringS.f k l1 1048576).bind fun t501 => (if t501 < 0 then (some true) else ((laws_toStringS.f k l1).bind fun t502 => ((laws_toBoolS.f k l2).bind fun t505 => ((spec_Rebuild.f k a0 t502 t505).bind fun bt508 => ((laws_toStringS.f k l1).bind fun t512 => ((laws_toBoolS.f k l2).bind fun t515 => ((impl_Rebuild.f k a0 t512 t515).bind fun bt518 => ((laws_eqStringS.f k bt518.1 bt508.1).bind fun t522 => (if t522 = true then (laws_FnExactRebuild.j0 k a0 l1 l2 bt508.1 bt508.2 t512 t515 bt518.1 bt518.2 (bt518.2 != bt508.2)) else (laws_FnExactRebuild.j0 k a0 l1 l2 bt508.1 bt508.2 t512 t515 bt518.1 bt518.2 true)))))))))))) = some r := h
 clear h
 by_cases c4 : (l2.length : Int) > 1048576
 ·rw [if_pos c4] at H
  have c4b0 : decide (1048576 < (l2.length : Int)) = true := decide_eq_true c4
  have c4b1 : decide (1048576 < l2.length) = true := decide_eq_true (by omega)
  clear c4
  obtain rfl := Option.some.inj H
  go_enter Try.func6, Try.ntmps6
  go_wp2
  go_ret
  exact ⟨by first | rfl | (simp [errW_none, errW_some] <;> rfl) | (simp [*, errW_none, errW_some] <;> rfl), by repeat (first | exact HB.out | apply bA | apply bN | apply bD)⟩
 rw [if_neg c4] at H
 have c4b0 : decide (1048576 < (l2.length : Int)) = false := decide_eq_false c4
 have c4b1 : decide (1048576 < l2.length) = false := decide_eq_false (by omega)
 clear c4
 replace H := bm H
 obtain ⟨t501, A50, H⟩ := H
 replace H : (if t501 < 0 then (some true) else ((laws_toStringS.f k l1).bind fun t502 => ((laws_toBoolS.f k l2).bind fun t505 => ((spec_Rebuild.f k a0 t502 t505).bind fun bt508 => ((laws_toStringS.f k l1).bind fun t512 => ((laws_toBoolS.f k l2).bind fun t515 => ((impl_Rebuild.f k a0 t512 t515).bind fun bt518 => ((laws_eqStringS.f k bt518.1 bt508.1).bind fun t522 => (if t522 = true then (laws_FnExactRebuild.j0 k a0 l1 l2 bt508.1 bt508.2 t512 t515 bt518.1 bt518.2 (bt518.2 != bt508.2)) else (laws_FnExactRebuild.j0 k a0 l1 l2 bt508.1 bt508.2 t512 t515 bt518.1 bt518.2 true)))))))))) = some r := H
 have A5 := AM A50
 clear A50
 by_cases c6 : t501 < 0
 ·rw [if_pos c6] at H
  have c6b0 : decide (t501 < 0) = true := decide_eq_true c6
  clear c6
  obtain rfl := Option.some.inj H
  go_enter Try.func6, Try.ntmps6
  go_wp2_with (first | ((with_reducible refine gate_callee (f := 16) rfl ?_); refine goesL_ (some 24) rfl rfl Try.func16 (by kernel_rfl) rfl #[.slice A1 l1.length c1, .int .i64 1048576] rfl (by (try simp only [List.map_toArray, List.map_cons, List.map_nil]); first | done | rfl) ?_; (with_reducible refine (laws_szStringS.calls k _ _ l1 1048576 t501 _ ?side1 ?side2 A5.out).mono ?_); (case side1 => repeat (first | exact HR1.out | (with_reducible refine Kd.C_alloc ?_ _) | (with_reducible refine Kd.C_drewN ?_ _) | (with_reducible refine Kd.C_drew ?_))); (case side2 => exact HC1.out); rintro e w' ⟨rfl, ⟨nd, rfl⟩⟩; refine ⟨_, rfl, ?_⟩))
  go_ret
  exact ⟨by first | rfl | (simp [errW_none, errW_some] <;> rfl) | (simp [*, errW_none, errW_some] <;> rfl), by repeat (first | exact HB.out | apply bA | apply bN | apply bD)⟩
 rw [if_neg c6] at H
 have c6b0 : decide (t501 < 0) = false := decide_eq_false c6
 clear c6
 replace H := bm H
 obtain ⟨t502, A70, H⟩ := H
 replace H : ((laws_toBoolS.f k l2).bind fun t505 => ((spec_Rebuild.f k a0 t502 t505).bind fun bt508 => ((laws_toStringS.f k l1).bind fun t512 => ((laws_toBoolS.f k l2).bind fun t515 => ((impl_Rebuild.f k a0 t512 t515).bind fun bt518 => ((laws_eqStringS.f k bt518.1 bt508.1).bind fun t522 => (if t522 = true then (laws_FnExactRebuild.j0 k a0 l1 l2 bt508.1 bt508.2 t512 t515 bt518.1 bt518.2 (bt518.2 != bt508.2)) else (laws_FnExactRebuild.j0 k a0 l1 l2 bt508.1 bt508.2 t512 t515 bt518.1 bt518.2 true)))))))) = some r := H
 have A7 := AM A70
 clear A70
 replace H := bm H
 obtain ⟨t505, A80, H⟩ := H
 replace H : ((spec_Rebuild.f k a0 t502 t505).bind fun bt508 => ((laws_toStringS.f k l1).bind fun t512 => ((laws_toBoolS.f k l2).bind fun t515 => ((impl_Rebuild.f k a0 t512 t515).bind fun bt518 => ((laws_eqStringS.f k bt518.1 bt508.1).bind fun t522 => (if t522 = true then (laws_FnExactRebuild.j0 k a0 l1 l2 bt508.1 bt508.2 t512 t515 bt518.1 bt518.2 (bt518.2 != bt508.2)) else (laws_FnExactRebuild.j0 k a0 l1 l2 bt508.1 bt508.2 t512 t515 bt518.1 bt518.2 true))))))) = some r := H
 have A8 := AM A80
 clear A80
 replace H := bm H
 obtain ⟨⟨t508, t509⟩, A90, H⟩ := H
 replace H : ((laws_toStringS.f k l1).bind fun t512 => ((laws_toBoolS.f k l2).bind fun t515 => ((impl_Rebuild.f k a0 t512 t515).bind fun bt518 => ((laws_eqStringS.f k bt518.1 t508).bind fun t522 => (if t522 = true then (laws_FnExactRebuild.j0 k a0 l1 l2 t508 t509 t512 t515 bt518.1 bt518.2 (bt518.2 != t509)) else (laws_FnExactRebuild.j0 k a0 l1 l2 t508 t509 t512 t515 bt518.1 bt518.2 true)))))) = some r := H
 have A9 := AM A90
 clear A90
 replace H := bm H
 obtain ⟨t512, A100, H⟩ := H
 replace H : ((laws_toBoolS.f k l2).bind fun t515 => ((impl_Rebuild.f k a0 t512 t515).bind fun bt518 => ((laws_eqStringS.f k bt518.1 t508).bind fun t522 => (if t522 = true then (laws_FnExactRebuild.j0 k a0 l1 l2 t508 t509 t512 t515 bt518.1 bt518.2 (bt518.2 != t509)) else (laws_FnExactRebuild.j0 k a0 l1 l2 t508 t509 t512 t515 bt518.1 bt518.2 true))))) = some r := H
 have A10 := AM A100
 clear A100
 replace H := bm H
 obtain ⟨t515, A110, H⟩ := H
 replace H : ((impl_Rebuild.f k a0 t512 t515).bind fun bt518 => ((laws_eqStringS.f k bt518.1 t508).bind fun t522 => (if t522 = true then (laws_FnExactRebuild.j0 k a0 l1 l2 t508 t509 t512 t515 bt518.1 bt518.2 (bt518.2 != t509)) else (laws_FnExactRebuild.j0 k a0 l1 l2 t508 t509 t512 t515 bt518.1 bt518.2 true)))) = some r := H
 have A11 := AM A110
 clear A110
 replace H := bm H
 obtain ⟨⟨t518, t519⟩, A120, H⟩ := H
 replace H : ((laws_eqStringS.f k t518 t508).bind fun t522 => (if t522 = true then (laws_FnExactRebuild.j0 k a0 l1 l2 t508 t509 t512 t515 t518 t519 (t519 != t509)) else (laws_FnExactRebuild.j0 k a0 l1 l2 t508 t509 t512 t515 t518 t519 true))) = some r := H
 have A12 := AM A120
 clear A120
 have HC13 := AM H
 clear H
 go_enter Try.func6, Try.ntmps6
 go_upto_region 11 with (first | ((with_reducible refine gate_callee (f := 16) rfl ?_); refine goesL_ (some 24) rfl rfl Try.func16 (by kernel_rfl) rfl #[.slice A1 l1.length c1, .int .i64 1048576] rfl (by (try simp only [List.map_toArray, List.map_cons, List.map_nil]); first | done | rfl) ?_; (with_reducible refine (laws_szStringS.calls k _ _ l1 1048576 t501 _ ?side1 ?side2 A5.out).mono ?_); (case side1 => repeat (first | exact HR1.out | (with_reducible refine Kd.C_alloc ?_ _) | (with_reducible refine Kd.C_drewN ?_ _) | (with_reducible refine Kd.C_drew ?_))); (case side2 => exact HC1.out); rintro e w' ⟨rfl, ⟨nd, rfl⟩⟩; refine ⟨_, rfl, ?_⟩) | ((with_reducible refine gate_callee (f := 17) rfl ?_); refine goesL_ (some 30) rfl rfl Try.func17 (by kernel_rfl) rfl #[.slice A1 l1.length c1] rfl (by (try simp only [List.map_toArray, List.map_cons, List.map_nil]); first | done | rfl) ?_; (with_reducible refine (laws_toStringS.calls k _ _ l1 t502 _ ?side1 ?side2 A7.out).mono ?_); (case side1 => repeat (first | exact HR1.out | (with_reducible refine Kd.C_alloc ?_ _) | (with_reducible refine Kd.C_drewN ?_ _) | (with_reducible refine Kd.C_drew ?_))); (case side2 => exact HC1.out); rintro e w14 ⟨v503, rfl, ho0, hb⟩; refine ⟨_, rfl, ?_⟩; have n0_ := AM (Kd.R_lower ho0 (below_size (by repeat (first | exact HB.out | apply bA | apply bN | apply bD)))); have n1_ := AM (below_step (by repeat (first | exact HB.out | apply bA | apply bN | apply bD)) hb); clear HB; have HO504 := n0_; have HB := n1_; clear n0_ n1_; (try clear hb); (try clear ho0)) | ((with_reducible refine gate_callee (f := 22) rfl ?_); refine goesL_ (some 32) rfl rfl Try.func22 (by kernel_rfl) rfl #[.slice A2 l2.length c2] rfl (by (try simp only [List.map_toArray, List.map_cons, List.map_nil]); first | done | rfl) ?_; (with_reducible refine (laws_toBoolS.calls k _ _ l2 t505 _ ?side1 ?side2 A8.out).mono ?_); (case side1 => repeat (first | exact (Kd.C_below HR2.out HB.out) | (with_reducible refine Kd.C_alloc ?_ _) | (with_reducible refine Kd.C_drewN ?_ _) | (with_reducible refine Kd.C_drew ?_))); (case side2 => exact HC2.out); rintro e w15 ⟨v506, rfl, ho0, hb⟩; refine ⟨_, rfl, ?_⟩; have n0_ := AM (Kd.R_below (by exact HO504.out) hb); have n1_ := AM (Kd.R_lower ho0 (below_size (by repeat (first | exact HB.out | apply bA | apply bN | apply bD)))); have n2_ := AM (below_step (by repeat (first | exact HB.out | apply bA | apply bN | apply bD)) hb); clear HO504; clear HB; have HO504 := n0_; have HO507 := n1_; have HB := n2_; clear n0_ n1_ n2_; (try clear hb); (try clear ho0); obtain ⟨Ao16, co16, eo16⟩ := Kd.R_slice HO504.out; subst eo16; obtain ⟨Ao17, co17, eo17⟩ := Kd.R_slice HO507.out; subst eo17) | ((with_reducible refine gate_callee (f := 25) rfl ?_); refine goesL_ (some 33) rfl rfl Try.func25 (by kernel_rfl) rfl #[.int .i64 a0, .slice Ao16 t502.length co16, .slice Ao17 t505.length co17] rfl (by (try simp only [List.map_toArray, List.map_cons, List.map_nil]); first | done | rfl) ?_; (with_reducible refine (spec_Rebuild.calls k a0 _ _ t502 _ _ t505 t508 t509 _ ?side1 ?side2 ?side3 ?side4 A9.out).mono ?_); (case side1 => repeat (first | exact (Kd.R_reads' HO504.out).2.2 | (with_reducible refine Kd.C_alloc ?_ _) | (with_reducible refine Kd.C_drewN ?_ _) | (with_reducible refine Kd.C_drew ?_))); (case side2 => exact (Kd.R_reads' HO504.out).2.1); (case side3 => repeat (first | exact (Kd.R_reads' HO507.out).2.2 | (with_reducible refine Kd.C_alloc ?_ _) | (with_reducible refine Kd.C_drewN ?_ _) | (with_reducible refine Kd.C_drew ?_))); (case side4 => exact (Kd.R_reads' HO507.out).2.1); rintro e w18 ⟨v510, rfl, ho0, hb⟩; refine ⟨_, rfl, ?_⟩; have n0_ := AM (Kd.R_elder' (by exact HO504.out) (Kd.R_base ho0) hb); have n1_ := AM (Kd.R_below (by exact HO507.out) hb); have n2_ := AM (Kd.R_lower (Kd.R_new' ho0 (Kd.R_lt (by exact HO504.out))) (below_size (by repeat (first | exact HB.out | apply bA | apply bN | apply bD)))); have n3_ := AM (below_step (by repeat (first | exact HB.out | apply bA | apply bN | apply bD)) hb); clear HO504; clear HO507; clear HB; have HO504 := n0_; have HO507 := n1_; have HO511 := n2_; have HB := n3_; clear n0_ n1_ n2_ n3_; (try clear hb); (try clear ho0)) | ((with_reducible refine gate_callee (f := 17) rfl ?_); refine goesL_ (some 37) rfl rfl Try.func17 (by kernel_rfl) rfl #[.slice A1 l1.length c1] rfl (by (try simp only [List.map_toArray, List.map_cons, List.map_nil]); first | done | rfl) ?_; (with_reducible refine (laws_toStringS.calls k _ _ l1 t512 _ ?side1 ?side2 A10.out).mono ?_); (case side1 => repeat (first | exact (Kd.C_below HR1.out HB.out) | (with_reducible refine Kd.C_alloc ?_ _) | (with_reducible refine Kd.C_drewN ?_ _) | (with_reducible refine Kd.C_drew ?_))); (case side2 => exact HC1.out); rintro e w19 ⟨v513, rfl, ho0, hb⟩; refine ⟨_, rfl, ?_⟩; have n0_ := AM (Kd.R_elder' (by exact HO504.out) (Kd.R_base ho0) hb); have n1_ := AM (Kd.R_below (by exact HO507.out) hb); have n2_ := AM (Kd.R_elder' (by exact HO511.out) (Kd.R_base ho0) hb); have n3_ := AM (Kd.R_lower (Kd.R_new' (Kd.R_new' ho0 (Kd.R_lt (by exact HO504.out))) (Kd.R_lt (by exact HO511.out))) (below_size (by repeat (first | exact HB.out | apply bA | apply bN | apply bD)))); have n4_ := AM (below_step (by repeat (first | exact HB.out | apply bA | apply bN | apply bD)) hb); clear HO504; clear HO507; clear HO511; clear HB; have HO504 := n0_; have HO507 := n1_; have HO511 := n2_; have HO514 := n3_; have HB := n4_; clear n0_ n1_ n2_ n3_ n4_; (try clear hb); (try clear ho0)) | ((with_reducible refine gate_callee (f := 22) rfl ?_); refine goesL_ (some 39) rfl rfl Try.func22 (by kernel_rfl) rfl #[.slice A2 l2.length c2] rfl (by (try simp only [List.map_toArray, List.map_cons, List.map_nil]); first | done | rfl) ?_; (with_reducible refine (laws_toBoolS.calls k _ _ l2 t515 _ ?side1 ?side2 A11.out).mono ?_); (case side1 => repeat (first | exact (Kd.C_below HR2.out HB.out) | (with_reducible refine Kd.C_alloc ?_ _) | (with_reducible refine Kd.C_drewN ?_ _) | (with_reducible refine Kd.C_drew ?_))); (case side2 => exact HC2.out); rintro e w20 ⟨v516, rfl, ho0, hb⟩; refine ⟨_, rfl, ?_⟩; have n0_ := AM (Kd.R_below (by exact HO504.out) hb); have n1_ := AM (Kd.R_elder' (by exact HO507.out) (Kd.R_base ho0) hb); have n2_ := AM (Kd.R_below (by exact HO511.out) hb); have n3_ := AM (Kd.R_below (by exact HO514.out) hb); have n4_ := AM (Kd.R_lower (Kd.R_new' ho0 (Kd.R_lt (by exact HO507.out))) (below_size (by repeat (first | exact HB.out | apply bA | apply bN | apply bD)))); have n5_ := AM (below_step (by repeat (first | exact HB.out | apply bA | apply bN | apply bD)) hb); clear HO504; clear HO507; clear HO511; clear HO514; clear HB; have HO504 := n0_; have HO507 := n1_; have HO511 := n2_; have HO514 := n3_; have HO517 := n4_; have HB := n5_; clear n0_ n1_ n2_ n3_ n4_ n5_; (try clear hb); (try clear ho0); obtain ⟨Ao21, co21, eo21⟩ := Kd.R_slice HO514.out; subst eo21; obtain ⟨Ao22, co22, eo22⟩ := Kd.R_slice HO517.out; subst eo22) | ((with_reducible refine gate_callee (f := 15) rfl ?_); refine goesL_ (some 44) rfl rfl Try.func15 (by kernel_rfl) rfl #[.int .i64 a0, .slice Ao21 t512.length co21, .slice Ao22 t515.length co22] rfl (by (try simp only [List.map_toArray, List.map_cons, List.map_nil]); first | done | rfl) ?_; (with_reducible refine (impl_Rebuild.calls k a0 _ _ t512 _ _ t515 t518 t519 _ ?side1 ?side2 ?side3 ?side4 A12.out).mono ?_); (case side1 => repeat (first | exact (Kd.R_reads' HO514.out).2.2 | (with_reducible refine Kd.C_alloc ?_ _) | (with_reducible refine Kd.C_drewN ?_ _) | (with_reducible refine Kd.C_drew ?_))); (case side2 => exact (Kd.R_reads' HO514.out).2.1); (case side3 => repeat (first | exact (Kd.R_reads' HO517.out).2.2 | (with_reducible refine Kd.C_alloc ?_ _) | (with_reducible refine Kd.C_drewN ?_ _) | (with_reducible refine Kd.C_drew ?_))); (case side4 => exact (Kd.R_reads' HO517.out).2.1); rintro e w23 ⟨v520, rfl, ho0, hb⟩; refine ⟨_, rfl, ?_⟩; have n0_ := AM (Kd.R_elder' (by exact HO504.out) (Kd.R_base ho0) hb); have n1_ := AM (Kd.R_below (by exact HO507.out) hb); have n2_ := AM (Kd.R_elder' (by exact HO511.out) (Kd.R_base ho0) hb); have n3_ := AM (Kd.R_elder' (by exact HO514.out) (Kd.R_base ho0) hb); have n4_ := AM (Kd.R_below (by exact HO517.out) hb); have n5_ := AM (Kd.R_lower (Kd.R_new' (Kd.R_new' (Kd.R_new' ho0 (Kd.R_lt (by exact HO504.out))) (Kd.R_lt (by exact HO511.out))) (Kd.R_lt (by exact HO514.out))) (below_size (by repeat (first | exact HB.out | apply bA | apply bN | apply bD)))); have n6_ := AM (below_step (by repeat (first | exact HB.out | apply bA | apply bN | apply bD)) hb); clear HO504; clear HO507; clear HO511; clear HO514; clear HO517; clear HB; have HO504 := n0_; have HO507 := n1_; have HO511 := n2_; have HO514 := n3_; have HO517 := n4_; have HO521 := n5_; have HB := n6_; clear n0_ n1_ n2_ n3_ n4_ n5_ n6_; (try clear hb); (try clear ho0)))
 (try simp only [Act.put, qT, q0, qS])
 go_cut [55] (fun v55 wc => ∃ (kq : Nat) (x55_12 : Bool), v55 = .bool x55_12 ∧ Aside0 (laws_FnExactRebuild.j0 kq a0 l1 l2 t508 t509 t512 t515 t518 t519 x55_12 = some r) ∧ Aside0 (kq ≤ k) ∧ Aside0 (Kd.R Kd.string 9 wc w.heap.size (fun k_ => some k_ ≠ ((.slice Ao21 t512.length co21) : Value).ownBlock ∧ some k_ ≠ (v520 : Value).ownBlock) v510 t508) ∧ Aside0 (Kd.R Kd.string 9 wc w.heap.size (fun k_ => some k_ ≠ (v510 : Value).ownBlock ∧ some k_ ≠ (v520 : Value).ownBlock) (.slice Ao21 t512.length co21) t512) ∧ Aside0 (Kd.R Kd.bool 4 wc w.heap.size (fun _ => True) (.slice Ao22 t515.length co22) t515) ∧ Aside0 (Kd.R Kd.string 9 wc w.heap.size (fun k_ => some k_ ≠ (v510 : Value).ownBlock ∧ some k_ ≠ ((.slice Ao21 t512.length co21) : Value).ownBlock) v520 t518) ∧ Aside0 (Below w.heap.size w wc))
 case first =>
  have H := HC13.out
  clear HC13
  replace H := bm H
  obtain ⟨t522, A240, H⟩ := H
  replace H : (if t522 = true then (laws_FnExactRebuild.j0 k a0 l1 l2 t508 t509 t512 t515 t518 t519 (t519 != t509)) else (laws_FnExactRebuild.j0 k a0 l1 l2 t508 t509 t512 t515 t518 t519 true)) = some r := H
  have A24 := AM A240
  clear A240
  by_cases c25 : t522 = true
  ·subst c25
   have H1 : (laws_FnExactRebuild.j0 k a0 l1 l2 t508 t509 t512 t515 t518 t519 (t519 != t509)) = some r := by rw [if_pos rfl] at H; exact H
   clear H
   have H := H1
   clear H1
   have H' := AM H
   clear H
   obtain ⟨Ao26, co26, eo26⟩ := Kd.R_slice HO521.out
   subst eo26
   obtain ⟨Ao27, co27, eo27⟩ := Kd.R_slice HO511.out
   subst eo27
   go_wp2_with (first | ((with_reducible refine gate_callee (f := 18) rfl ?_); refine goesL_ (some 49) rfl rfl Try.func18 (by kernel_rfl) rfl #[.slice Ao26 t518.length co26, .slice Ao27 t508.length co27] rfl (by (try simp only [List.map_toArray, List.map_cons, List.map_nil]); first | done | rfl) ?_; (with_reducible refine (laws_eqStringS.calls k _ _ t518 _ _ t508 true _ ?side1 ?side2 ?side3 ?side4 A24.out).mono ?_); (case side1 => repeat (first | exact (Kd.R_reads' HO521.out).2.2 | (with_reducible refine Kd.C_alloc ?_ _) | (with_reducible refine Kd.C_drewN ?_ _) | (with_reducible refine Kd.C_drew ?_))); (case side2 => exact (Kd.R_reads' HO521.out).2.1); (case side3 => repeat (first | exact (Kd.R_reads' HO511.out).2.2 | (with_reducible refine Kd.C_alloc ?_ _) | (with_reducible refine Kd.C_drewN ?_ _) | (with_reducible refine Kd.C_drew ?_))); (case side4 => exact (Kd.R_reads' HO511.out).2.1); rintro e w' ⟨rfl, ⟨nd, rfl⟩⟩; refine ⟨_, rfl, ?_⟩))
   go_meet
   case rel => exact ⟨_, ((t519 != t509)), (by first | rfl | (simp; done) | (simp [*]; done)), H', ⟨by first | omega | exact Nat.le_refl _⟩, ⟨by exact Kd.R_mono HO511.out (fun _ hk => ⟨hk.1.2, hk.2⟩)⟩, ⟨by exact Kd.R_mono HO514.out (fun _ hk => ⟨hk.1.2, hk.2⟩)⟩, ⟨by exact Kd.R_mono HO517.out (fun _ hk => trivial)⟩, ⟨by exact Kd.R_mono HO521.out (fun _ hk => ⟨hk.1.2, hk.2⟩)⟩, ⟨by repeat (first | exact HB.out | apply bA | apply bN | apply bD)⟩⟩
  replace c25 := Bool.eq_false_iff.mpr c25
  subst c25
  have H1 : (laws_FnExactRebuild.j0 k a0 l1 l2 t508 t509 t512 t515 t518 t519 true) = some r := by rw [if_neg (show ¬ (false = true) by decide)] at H; exact H
  clear H
  have H := H1
  clear H1
  have H' := AM H
  clear H
  obtain ⟨Ao28, co28, eo28⟩ := Kd.R_slice HO521.out
  subst eo28
  obtain ⟨Ao29, co29, eo29⟩ := Kd.R_slice HO511.out
  subst eo29
  go_wp2_with (first | ((with_reducible refine gate_callee (f := 18) rfl ?_); refine goesL_ (some 49) rfl rfl Try.func18 (by kernel_rfl) rfl #[.slice Ao28 t518.length co28, .slice Ao29 t508.length co29] rfl (by (try simp only [List.map_toArray, List.map_cons, List.map_nil]); first | done | rfl) ?_; (with_reducible refine (laws_eqStringS.calls k _ _ t518 _ _ t508 false _ ?side1 ?side2 ?side3 ?side4 A24.out).mono ?_); (case side1 => repeat (first | exact (Kd.R_reads' HO521.out).2.2 | (with_reducible refine Kd.C_alloc ?_ _) | (with_reducible refine Kd.C_drewN ?_ _) | (with_reducible refine Kd.C_drew ?_))); (case side2 => exact (Kd.R_reads' HO521.out).2.1); (case side3 => repeat (first | exact (Kd.R_reads' HO511.out).2.2 | (with_reducible refine Kd.C_alloc ?_ _) | (with_reducible refine Kd.C_drewN ?_ _) | (with_reducible refine Kd.C_drew ?_))); (case side4 => exact (Kd.R_reads' HO511.out).2.1); rintro e w' ⟨rfl, ⟨nd, rfl⟩⟩; refine ⟨_, rfl, ?_⟩))
  go_meet
  case rel => exact ⟨_, (true), (by first | rfl | (simp; done) | (simp [*]; done)), H', ⟨by first | omega | exact Nat.le_refl _⟩, ⟨by exact Kd.R_mono HO511.out (fun _ hk => ⟨hk.1.2, hk.2⟩)⟩, ⟨by exact Kd.R_mono HO514.out (fun _ hk => ⟨hk.1.2, hk.2⟩)⟩, ⟨by exact Kd.R_mono HO517.out (fun _ hk => trivial)⟩, ⟨by exact Kd.R_mono HO521.out (fun _ hk => ⟨hk.1.2, hk.2⟩)⟩, ⟨by repeat (first | exact HB.out | apply bA | apply bN | apply bD)⟩⟩
 case rest =>
  clear HC13
  obtain ⟨kq, x55_12, rfl, HA, HJ12, HO_8, HO_10, HO_11, HO_12, HB⟩ := hcut
  cases kq with
  | zero => exact absurd HA.out (by simp [laws_FnExactRebuild.j0])
  | succ kj12 =>
   have H := HA.out
   clear HA
   simp only [laws_FnExactRebuild.j0] at H
   by_cases c30 : x55_12 = true
   ·subst c30
    have H1 : (some false) = some r := by rw [if_pos rfl] at H; exact H
    clear H
    have H := H1
    clear H1
    obtain rfl := Option.some.inj H
    go_wp2
    go_ret
    exact ⟨by first | rfl | (simp [errW_none, errW_some] <;> rfl) | (simp [*, errW_none, errW_some] <;> rfl), by repeat (first | exact HB.out | apply bA | apply bN | apply bD)⟩
   replace c30 := Bool.eq_false_iff.mpr c30
   subst c30
   have H1 : ((laws_toStringS.f kj12 l1).bind fun t523 => ((laws_eqStringS.f kj12 t512 t523).bind fun t526 => (if t526 = true then ((laws_toBoolS.f kj12 l2).bind fun t527 => ((laws_eqBoolS.f kj12 t515 t527).bind fun t530 => (if t530 = true then ((laws_markStringS.f kj12 t512 1).bind fun bt531 => ((laws_markBoolS.f kj12 t515 bt531.1).bind fun bt533 => (if bt533.1 < 0 then (laws_FnExactRebuild.j1 kj12 a0 l1 l2 t508 t509 t518 true) else ((laws_eqStringS.f kj12 t518 t508).bind fun t535 => (if t535 = true then (laws_FnExactRebuild.j1 kj12 a0 l1 l2 t508 t509 t518 (t519 != t509)) else (laws_FnExactRebuild.j1 kj12 a0 l1 l2 t508 t509 t518 true)))))) else (some false)))) else (some false)))) = some r := by rw [if_neg (show ¬ (false = true) by decide)] at H; exact H
   clear H
   have H := H1
   clear H1
   replace H := bm H
   obtain ⟨t523, A310, H⟩ := H
   replace H : ((laws_eqStringS.f kj12 t512 t523).bind fun t526 => (if t526 = true then ((laws_toBoolS.f kj12 l2).bind fun t527 => ((laws_eqBoolS.f kj12 t515 t527).bind fun t530 => (if t530 = true then ((laws_markStringS.f kj12 t512 1).bind fun bt531 => ((laws_markBoolS.f kj12 t515 bt531.1).bind fun bt533 => (if bt533.1 < 0 then (laws_FnExactRebuild.j1 kj12 a0 l1 l2 t508 t509 t518 true) else ((laws_eqStringS.f kj12 t518 t508).bind fun t535 => (if t535 = true then (laws_FnExactRebuild.j1 kj12 a0 l1 l2 t508 t509 t518 (t519 != t509)) else (laws_FnExactRebuild.j1 kj12 a0 l1 l2 t508 t509 t518 true)))))) else (some false)))) else (some false))) = some r := H
   have A31 := AM A310
   clear A310
   replace H := bm H
   obtain ⟨t526, A320, H⟩ := H
   replace H : (if t526 = true then ((laws_toBoolS.f kj12 l2).bind fun t527 => ((laws_eqBoolS.f kj12 t515 t527).bind fun t530 => (if t530 = true then ((laws_markStringS.f kj12 t512 1).bind fun bt531 => ((laws_markBoolS.f kj12 t515 bt531.1).bind fun bt533 => (if bt533.1 < 0 then (laws_FnExactRebuild.j1 kj12 a0 l1 l2 t508 t509 t518 true) else ((laws_eqStringS.f kj12 t518 t508).bind fun t535 => (if t535 = true then (laws_FnExactRebuild.j1 kj12 a0 l1 l2 t508 t509 t518 (t519 != t509)) else (laws_FnExactRebuild.j1 kj12 a0 l1 l2 t508 t509 t518 true)))))) else (some false)))) else (some false)) = some r := H
   have A32 := AM A320
   clear A320
   by_cases c33 : t526 = true
   ·subst c33
    have H1 : ((laws_toBoolS.f kj12 l2).bind fun t527 => ((laws_eqBoolS.f kj12 t515 t527).bind fun t530 => (if t530 = true then ((laws_markStringS.f kj12 t512 1).bind fun bt531 => ((laws_markBoolS.f kj12 t515 bt531.1).bind fun bt533 => (if bt533.1 < 0 then (laws_FnExactRebuild.j1 kj12 a0 l1 l2 t508 t509 t518 true) else ((laws_eqStringS.f kj12 t518 t508).bind fun t535 => (if t535 = true then (laws_FnExactRebuild.j1 kj12 a0 l1 l2 t508 t509 t518 (t519 != t509)) else (laws_FnExactRebuild.j1 kj12 a0 l1 l2 t508 t509 t518 true)))))) else (some false)))) = some r := by rw [if_pos rfl] at H; exact H
    clear H
    have H := H1
    clear H1
    replace H := bm H
    obtain ⟨t527, A340, H⟩ := H
    replace H : ((laws_eqBoolS.f kj12 t515 t527).bind fun t530 => (if t530 = true then ((laws_markStringS.f kj12 t512 1).bind fun bt531 => ((laws_markBoolS.f kj12 t515 bt531.1).bind fun bt533 => (if bt533.1 < 0 then (laws_FnExactRebuild.j1 kj12 a0 l1 l2 t508 t509 t518 true) else ((laws_eqStringS.f kj12 t518 t508).bind fun t535 => (if t535 = true then (laws_FnExactRebuild.j1 kj12 a0 l1 l2 t508 t509 t518 (t519 != t509)) else (laws_FnExactRebuild.j1 kj12 a0 l1 l2 t508 t509 t518 true)))))) else (some false))) = some r := H
    have A34 := AM A340
    clear A340
    replace H := bm H
    obtain ⟨t530, A350, H⟩ := H
    replace H : (if t530 = true then ((laws_markStringS.f kj12 t512 1).bind fun bt531 => ((laws_markBoolS.f kj12 t515 bt531.1).bind fun bt533 => (if bt533.1 < 0 then (laws_FnExactRebuild.j1 kj12 a0 l1 l2 t508 t509 t518 true) else ((laws_eqStringS.f kj12 t518 t508).bind fun t535 => (if t535 = true then (laws_FnExactRebuild.j1 kj12 a0 l1 l2 t508 t509 t518 (t519 != t509)) else (laws_FnExactRebuild.j1 kj12 a0 l1 l2 t508 t509 t518 true)))))) else (some false)) = some r := H
    have A35 := AM A350
    clear A350
    by_cases c36 : t530 = true
    ·subst c36
     have H1 : ((laws_markStringS.f kj12 t512 1).bind fun bt531 => ((laws_markBoolS.f kj12 t515 bt531.1).bind fun bt533 => (if bt533.1 < 0 then (laws_FnExactRebuild.j1 kj12 a0 l1 l2 t508 t509 t518 true) else ((laws_eqStringS.f kj12 t518 t508).bind fun t535 => (if t535 = true then (laws_FnExactRebuild.j1 kj12 a0 l1 l2 t508 t509 t518 (t519 != t509)) else (laws_FnExactRebuild.j1 kj12 a0 l1 l2 t508 t509 t518 true)))))) = some r := by rw [if_pos rfl] at H; exact H
     clear H
     have H := H1
     clear H1
     replace H := bm H
     obtain ⟨⟨t531, t532⟩, A370, H⟩ := H
     replace H : ((laws_markBoolS.f kj12 t515 t531).bind fun bt533 => (if bt533.1 < 0 then (laws_FnExactRebuild.j1 kj12 a0 l1 l2 t508 t509 t518 true) else ((laws_eqStringS.f kj12 t518 t508).bind fun t535 => (if t535 = true then (laws_FnExactRebuild.j1 kj12 a0 l1 l2 t508 t509 t518 (t519 != t509)) else (laws_FnExactRebuild.j1 kj12 a0 l1 l2 t508 t509 t518 true))))) = some r := H
     have A37 := AM A370
     clear A370
     replace H := bm H
     obtain ⟨⟨t533, t534⟩, A380, H⟩ := H
     replace H : (if t533 < 0 then (laws_FnExactRebuild.j1 kj12 a0 l1 l2 t508 t509 t518 true) else ((laws_eqStringS.f kj12 t518 t508).bind fun t535 => (if t535 = true then (laws_FnExactRebuild.j1 kj12 a0 l1 l2 t508 t509 t518 (t519 != t509)) else (laws_FnExactRebuild.j1 kj12 a0 l1 l2 t508 t509 t518 true)))) = some r := H
     have A38 := AM A380
     clear A380
     have HC39 := AM H
     clear H
     go_upto_region 20 with (first | ((with_reducible refine gate_callee (f := 17) rfl ?_); refine goesL_ (some 58) rfl rfl Try.func17 (by kernel_rfl) rfl #[.slice A1 l1.length c1] rfl (by (try simp only [List.map_toArray, List.map_cons, List.map_nil]); first | done | rfl) ?_; (with_reducible refine (laws_toStringS.calls kj12 _ _ l1 t523 _ ?side1 ?side2 A31.out).mono ?_); (case side1 => repeat (first | exact (Kd.C_below HR1.out HB.out) | (with_reducible refine Kd.C_alloc ?_ _) | (with_reducible refine Kd.C_drewN ?_ _) | (with_reducible refine Kd.C_drew ?_))); (case side2 => exact HC1.out); rintro e w40 ⟨v524, rfl, ho0, hb⟩; refine ⟨_, rfl, ?_⟩; have n0_ := AM (Kd.R_elder' (by exact HO_8.out) (Kd.R_base ho0) hb); have n1_ := AM (Kd.R_elder' (by exact HO_10.out) (Kd.R_base ho0) hb); have n2_ := AM (Kd.R_below (by exact HO_11.out) hb); have n3_ := AM (Kd.R_elder' (by exact HO_12.out) (Kd.R_base ho0) hb); have n4_ := AM (Kd.R_lower (Kd.R_new' (Kd.R_new' (Kd.R_new' ho0 (Kd.R_lt (by exact HO_8.out))) (Kd.R_lt (by exact HO_10.out))) (Kd.R_lt (by exact HO_12.out))) (below_size (by repeat (first | exact HB.out | apply bA | apply bN | apply bD)))); have n5_ := AM (below_step (by repeat (first | exact HB.out | apply bA | apply bN | apply bD)) hb); clear HO_8; clear HO_10; clear HO_11; clear HO_12; clear HB; have HO_8 := n0_; have HO_10 := n1_; have HO_11 := n2_; have HO_12 := n3_; have HO525 := n4_; have HB := n5_; clear n0_ n1_ n2_ n3_ n4_ n5_; (try clear hb); (try clear ho0); obtain ⟨Ao41, co41, eo41⟩ := Kd.R_slice HO525.out; subst eo41) | ((with_reducible refine gate_callee (f := 18) rfl ?_); refine goesL_ (some 59) rfl rfl Try.func18 (by kernel_rfl) rfl #[.slice Ao21 t512.length co21, .slice Ao41 t523.length co41] rfl (by (try simp only [List.map_toArray, List.map_cons, List.map_nil]); first | done | rfl) ?_; (with_reducible refine (laws_eqStringS.calls kj12 _ _ t512 _ _ t523 true _ ?side1 ?side2 ?side3 ?side4 A32.out).mono ?_); (case side1 => repeat (first | exact (Kd.R_reads' HO_10.out).2.2 | (with_reducible refine Kd.C_alloc ?_ _) | (with_reducible refine Kd.C_drewN ?_ _) | (with_reducible refine Kd.C_drew ?_))); (case side2 => exact (Kd.R_reads' HO_10.out).2.1); (case side3 => repeat (first | exact (Kd.R_reads' HO525.out).2.2 | (with_reducible refine Kd.C_alloc ?_ _) | (with_reducible refine Kd.C_drewN ?_ _) | (with_reducible refine Kd.C_drew ?_))); (case side4 => exact (Kd.R_reads' HO525.out).2.1); rintro e w' ⟨rfl, ⟨nd, rfl⟩⟩; refine ⟨_, rfl, ?_⟩) | ((with_reducible refine gate_callee (f := 22) rfl ?_); refine goesL_ (some 63) rfl rfl Try.func22 (by kernel_rfl) rfl #[.slice A2 l2.length c2] rfl (by (try simp only [List.map_toArray, List.map_cons, List.map_nil]); first | done | rfl) ?_; (with_reducible refine (laws_toBoolS.calls kj12 _ _ l2 t527 _ ?side1 ?side2 A34.out).mono ?_); (case side1 => repeat (first | exact (Kd.C_below HR2.out (by repeat (first | exact HB.out | apply bA | apply bN | apply bD))) | (with_reducible refine Kd.C_alloc ?_ _) | (with_reducible refine Kd.C_drewN ?_ _) | (with_reducible refine Kd.C_drew ?_))); (case side2 => exact HC2.out); rintro e w42 ⟨v528, rfl, ho0, hb⟩; refine ⟨_, rfl, ?_⟩; have n0_ := AM (Kd.R_below (by exact HO_8.out) hb); have n1_ := AM (Kd.R_below (by exact HO_10.out) hb); have n2_ := AM (Kd.R_elder' (by exact HO_11.out) (Kd.R_base ho0) hb); have n3_ := AM (Kd.R_below (by exact HO_12.out) hb); have n4_ := AM (Kd.R_below (by exact HO525.out) hb); have n5_ := AM (Kd.R_lower (Kd.R_new' ho0 (Kd.R_lt (by exact HO_11.out))) (below_size (by repeat (first | exact HB.out | apply bA | apply bN | apply bD)))); have n6_ := AM (below_step (by repeat (first | exact HB.out | apply bA | apply bN | apply bD)) hb); clear HO_8; clear HO_10; clear HO_11; clear HO_12; clear HO525; clear HB; have HO_8 := n0_; have HO_10 := n1_; have HO_11 := n2_; have HO_12 := n3_; have HO525 := n4_; have HO529 := n5_; have HB := n6_; clear n0_ n1_ n2_ n3_ n4_ n5_ n6_; (try clear hb); (try clear ho0); obtain ⟨Ao43, co43, eo43⟩ := Kd.R_slice HO529.out; subst eo43) | ((with_reducible refine gate_callee (f := 23) rfl ?_); refine goesL_ (some 64) rfl rfl Try.func23 (by kernel_rfl) rfl #[.slice Ao22 t515.length co22, .slice Ao43 t527.length co43] rfl (by (try simp only [List.map_toArray, List.map_cons, List.map_nil]); first | done | rfl) ?_; (with_reducible refine (laws_eqBoolS.calls kj12 _ _ t515 _ _ t527 true _ ?side1 ?side2 ?side3 ?side4 A35.out).mono ?_); (case side1 => repeat (first | exact (Kd.R_reads' HO_11.out).2.2 | (with_reducible refine Kd.C_alloc ?_ _) | (with_reducible refine Kd.C_drewN ?_ _) | (with_reducible refine Kd.C_drew ?_))); (case side2 => exact (Kd.R_reads' HO_11.out).2.1); (case side3 => repeat (first | exact (Kd.R_reads' HO529.out).2.2 | (with_reducible refine Kd.C_alloc ?_ _) | (with_reducible refine Kd.C_drewN ?_ _) | (with_reducible refine Kd.C_drew ?_))); (case side4 => exact (Kd.R_reads' HO529.out).2.1); rintro e w' ⟨rfl, ⟨nd, rfl⟩⟩; refine ⟨_, rfl, ?_⟩) | ((with_reducible refine gate_callee (f := 19) rfl ?_); refine goesL_ (some 68) rfl rfl Try.func19 (by kernel_rfl) rfl #[.slice Ao21 t512.length co21, .int .i64 1] rfl (by (try simp only [List.map_toArray, List.map_cons, List.map_nil]); first | done | rfl) ?_; (with_reducible refine (laws_markStringS.calls kj12 (fun k_ => some k_ = (.slice Ao21 t512.length co21 : Value).ownBlock) (.slice Ao21 t512.length co21) t512 1 t531 t532 w _ ?side1 ?side2 A37.out).mono ?_); (case side1 => repeat (first | exact HB.out | apply bA | apply bN | apply bD)); (case side2 => exact Kd.R_tight rfl HO_10.out); rintro e w44 ⟨rfl, hy0, hb, hkp⟩; refine ⟨_, rfl, ?_⟩; have n0_ := AM (Kd.R_mono (ok' := fun k_ => some k_ ≠ (.slice Ao21 t512.length co21 : Value).ownBlock ∧ some k_ ≠ (v520 : Value).ownBlock ∧ some k_ ≠ (.slice Ao41 t523.length co41 : Value).ownBlock) (Kd.R_keptB (HO_8.out) hkp (fun k_ hk_ hs_ => (hk_.1.1) hs_)) (fun k_ hk_ => ⟨hk_.1.1.1, hk_.1.1.2, hk_.1.2⟩)); have n1_ := AM (Kd.R_reok rfl hy0 (fun k_ e_ => HO_10.out.1 k_ e_)); have n2_ := AM (Kd.R_mono (ok' := fun k_ => some k_ ≠ (.slice Ao43 t527.length co43 : Value).ownBlock) (Kd.R_keptB ((Kd.R_apart' HO_11.out (Kd.R_typed HO_10.out) (by decide))) hkp (fun k_ hk_ hs_ => (hk_.2) hs_)) (fun k_ hk_ => hk_.1.1.2)); have n3_ := AM (Kd.R_mono (ok' := fun k_ => some k_ ≠ (v510 : Value).ownBlock ∧ some k_ ≠ (.slice Ao21 t512.length co21 : Value).ownBlock ∧ some k_ ≠ (.slice Ao41 t523.length co41 : Value).ownBlock) (Kd.R_keptB (HO_12.out) hkp (fun k_ hk_ hs_ => (hk_.1.2) hs_)) (fun k_ hk_ => ⟨hk_.1.1.1, hk_.1.1.2, hk_.1.2⟩)); have n4_ := AM (Kd.R_mono (ok' := fun k_ => some k_ ≠ (v510 : Value).ownBlock ∧ some k_ ≠ (.slice Ao21 t512.length co21 : Value).ownBlock ∧ some k_ ≠ (v520 : Value).ownBlock) (Kd.R_keptB (HO525.out) hkp (fun k_ hk_ hs_ => (hk_.1.2) hs_)) (fun k_ hk_ => ⟨hk_.1.1.1.2, hk_.1.1.2, hk_.1.2⟩)); have n5_ := AM (Kd.R_mono (ok' := fun k_ => some k_ ≠ (.slice Ao22 t515.length co22 : Value).ownBlock) (Kd.R_keptB ((Kd.R_apart' HO529.out (Kd.R_typed HO_10.out) (by decide))) hkp (fun k_ hk_ hs_ => (hk_.2) hs_)) (fun k_ hk_ => hk_.1.1.2)); have n6_ := AM (hb); clear HO_8; clear HO_10; clear HO_11; clear HO_12; clear HO525; clear HO529; clear HB; have HO_8 := n0_; have HO_10 := n1_; have HO_11 := n2_; have HO_12 := n3_; have HO525 := n4_; have HO529 := n5_; have HB := n6_; clear n0_ n1_ n2_ n3_ n4_ n5_ n6_; (try clear hb); (try clear hkp); (try clear hy0)) | ((with_reducible refine gate_callee (f := 24) rfl ?_); refine goesL_ (some 71) rfl rfl Try.func24 (by kernel_rfl) rfl #[.slice Ao22 t515.length co22, .int .i64 t531] rfl (by (try simp only [List.map_toArray, List.map_cons, List.map_nil]); first | done | rfl) ?_; (with_reducible refine (laws_markBoolS.calls kj12 (fun k_ => some k_ = (.slice Ao22 t515.length co22 : Value).ownBlock) (.slice Ao22 t515.length co22) t515 t531 t533 t534 w _ ?side1 ?side2 A38.out).mono ?_); (case side1 => repeat (first | exact HB.out | apply bA | apply bN | apply bD)); (case side2 => exact Kd.R_tight rfl HO_11.out); rintro e w45 ⟨rfl, hy0, hb, hkp⟩; refine ⟨_, rfl, ?_⟩; have n0_ := AM (Kd.R_mono (ok' := fun k_ => some k_ ≠ (.slice Ao21 t512.length co21 : Value).ownBlock ∧ some k_ ≠ (v520 : Value).ownBlock ∧ some k_ ≠ (.slice Ao41 t523.length co41 : Value).ownBlock) (Kd.R_keptB ((Kd.R_apart' HO_8.out (Kd.R_typed HO_11.out) (by decide))) hkp (fun k_ hk_ hs_ => (hk_.2) hs_)) (fun k_ hk_ => ⟨hk_.1.1.1, hk_.1.1.2.1, hk_.1.1.2.2⟩)); have n1_ := AM (Kd.R_mono (ok' := fun k_ => some k_ ≠ (v510 : Value).ownBlock ∧ some k_ ≠ (v520 : Value).ownBlock ∧ some k_ ≠ (.slice Ao41 t523.length co41 : Value).ownBlock) (Kd.R_keptB ((Kd.R_apart' HO_10.out (Kd.R_typed HO_11.out) (by decide))) hkp (fun k_ hk_ hs_ => (hk_.2) hs_)) (fun k_ hk_ => ⟨hk_.1.1.1.1, hk_.1.1.1.2, hk_.1.1.2⟩)); have n2_ := AM (Kd.R_reok rfl hy0 (fun k_ e_ => HO_11.out.1 k_ e_)); have n3_ := AM (Kd.R_mono (ok' := fun k_ => some k_ ≠ (v510 : Value).ownBlock ∧ some k_ ≠ (.slice Ao21 t512.length co21 : Value).ownBlock ∧ some k_ ≠ (.slice Ao41 t523.length co41 : Value).ownBlock) (Kd.R_keptB ((Kd.R_apart' HO_12.out (Kd.R_typed HO_11.out) (by decide))) hkp (fun k_ hk_ hs_ => (hk_.2) hs_)) (fun k_ hk_ => ⟨hk_.1.1.1, hk_.1.1.2.1, hk_.1.1.2.2⟩)); have n4_ := AM (Kd.R_mono (ok' := fun k_ => some k_ ≠ (v510 : Value).ownBlock ∧ some k_ ≠ (.slice Ao21 t512.length co21 : Value).ownBlock ∧ some k_ ≠ (v520 : Value).ownBlock) (Kd.R_keptB ((Kd.R_apart' HO525.out (Kd.R_typed HO_11.out) (by decide))) hkp (fun k_ hk_ hs_ => (hk_.2) hs_)) (fun k_ hk_ => ⟨hk_.1.1.1, hk_.1.1.2.1, hk_.1.1.2.2⟩)); have n5_ := AM (Kd.R_mono (ok' := fun k_ => some k_ ≠ (.slice Ao22 t515.length co22 : Value).ownBlock) (Kd.R_keptB (HO529.out) hkp (fun k_ hk_ hs_ => (hk_) hs_)) (fun k_ hk_ => hk_.1)); have n6_ := AM (hb); clear HO_8; clear HO_10; clear HO_11; clear HO_12; clear HO525; clear HO529; clear HB; have HO_8 := n0_; have HO_10 := n1_; have HO_11 := n2_; have HO_12 := n3_; have HO525 := n4_; have HO529 := n5_; have HB := n6_; clear n0_ n1_ n2_ n3_ n4_ n5_ n6_; (try clear hb); (try clear hkp); (try clear hy0)))
     (try simp only [Act.put, qT, q0, qS])
     go_cut [84] (fun v84 wc => ∃ (kq : Nat) (x84_38 : Bool), v84 = .bool x84_38 ∧ Aside0 (laws_FnExactRebuild.j1 kq a0 l1 l2 t508 t509 t518 x84_38 = some r) ∧ Aside0 (kq ≤ kj12) ∧ Aside0 (Kd.R Kd.string 9 wc w.heap.size (fun k_ => some k_ ≠ (v520 : Value).ownBlock) v510 t508) ∧ Aside0 (Kd.R Kd.string 9 wc w.heap.size (fun k_ => some k_ ≠ (v510 : Value).ownBlock) v520 t518) ∧ Aside0 (Below w.heap.size w wc))
     case first =>
      have H := HC39.out
      clear HC39
      by_cases c46 : t533 < 0
      ·rw [if_pos c46] at H
       have c46b0 : decide (t533 < 0) = true := decide_eq_true c46
       clear c46
       (first | rw [c46b0] | (simp only [i64_w, i32_w]; rw [c46b0]) | rw [c46b1] | skip)
       have H' := AM H
       clear H
       go_wp2
       go_meet
       case rel => exact ⟨_, (true), (by first | rfl | (simp; done) | (simp [*]; done)), H', ⟨by have := HJ12.out; first | omega | exact Nat.le_refl _⟩, ⟨by exact Kd.R_mono HO_8.out (fun _ hk => hk.2.1)⟩, ⟨by exact Kd.R_mono HO_12.out (fun _ hk => hk.1)⟩, ⟨by repeat (first | exact HB.out | apply bA | apply bN | apply bD)⟩⟩
      rw [if_neg c46] at H
      have c46b0 : decide (t533 < 0) = false := decide_eq_false c46
      clear c46
      (first | rw [c46b0] | (simp only [i64_w, i32_w]; rw [c46b0]) | rw [c46b1] | skip)
      replace H := bm H
      obtain ⟨t535, A470, H⟩ := H
      replace H : (if t535 = true then (laws_FnExactRebuild.j1 kj12 a0 l1 l2 t508 t509 t518 (t519 != t509)) else (laws_FnExactRebuild.j1 kj12 a0 l1 l2 t508 t509 t518 true)) = some r := H
      have A47 := AM A470
      clear A470
      by_cases c48 : t535 = true
      ·subst c48
       have H1 : (laws_FnExactRebuild.j1 kj12 a0 l1 l2 t508 t509 t518 (t519 != t509)) = some r := by rw [if_pos rfl] at H; exact H
       clear H
       have H := H1
       clear H1
       have H' := AM H
       clear H
       obtain ⟨Ao49, co49, eo49⟩ := Kd.R_slice HO_12.out
       subst eo49
       obtain ⟨Ao50, co50, eo50⟩ := Kd.R_slice HO_8.out
       subst eo50
       go_wp2_with (first | (go_at_call 18; (with_reducible refine (laws_eqStringS.calls kj12 _ _ t518 _ _ t508 true _ ?side1 ?side2 ?side3 ?side4 A47.out).mono ?_); (case side1 => repeat (first | exact (Kd.R_reads' HO_12.out).2.2 | (with_reducible refine Kd.C_alloc ?_ _) | (with_reducible refine Kd.C_drewN ?_ _) | (with_reducible refine Kd.C_drew ?_))); (case side2 => exact (Kd.R_reads' HO_12.out).2.1); (case side3 => repeat (first | exact (Kd.R_reads' HO_8.out).2.2 | (with_reducible refine Kd.C_alloc ?_ _) | (with_reducible refine Kd.C_drewN ?_ _) | (with_reducible refine Kd.C_drew ?_))); (case side4 => exact (Kd.R_reads' HO_8.out).2.1); rintro e w' ⟨rfl, ⟨nd, rfl⟩⟩))
       go_meet
       case rel => exact ⟨_, ((t519 != t509)), (by first | rfl | (simp; done) | (simp [*]; done)), H', ⟨by have := HJ12.out; first | omega | exact Nat.le_refl _⟩, ⟨by exact Kd.R_mono HO_8.out (fun _ hk => hk.2.1)⟩, ⟨by exact Kd.R_mono HO_12.out (fun _ hk => hk.1)⟩, ⟨by repeat (first | exact HB.out | apply bA | apply bN | apply bD)⟩⟩
      replace c48 := Bool.eq_false_iff.mpr c48
      subst c48
      have H1 : (laws_FnExactRebuild.j1 kj12 a0 l1 l2 t508 t509 t518 true) = some r := by rw [if_neg (show ¬ (false = true) by decide)] at H; exact H
      clear H
      have H := H1
      clear H1
      have H' := AM H
      clear H
      obtain ⟨Ao51, co51, eo51⟩ := Kd.R_slice HO_12.out
      subst eo51
      obtain ⟨Ao52, co52, eo52⟩ := Kd.R_slice HO_8.out
      subst eo52
      go_wp2_with (first | (go_at_call 18; (with_reducible refine (laws_eqStringS.calls kj12 _ _ t518 _ _ t508 false _ ?side1 ?side2 ?side3 ?side4 A47.out).mono ?_); (case side1 => repeat (first | exact (Kd.R_reads' HO_12.out).2.2 | (with_reducible refine Kd.C_alloc ?_ _) | (with_reducible refine Kd.C_drewN ?_ _) | (with_reducible refine Kd.C_drew ?_))); (case side2 => exact (Kd.R_reads' HO_12.out).2.1); (case side3 => repeat (first | exact (Kd.R_reads' HO_8.out).2.2 | (with_reducible refine Kd.C_alloc ?_ _) | (with_reducible refine Kd.C_drewN ?_ _) | (with_reducible refine Kd.C_drew ?_))); (case side4 => exact (Kd.R_reads' HO_8.out).2.1); rintro e w' ⟨rfl, ⟨nd, rfl⟩⟩))
      go_meet
      case rel => exact ⟨_, (true), (by first | rfl | (simp; done) | (simp [*]; done)), H', ⟨by have := HJ12.out; first | omega | exact Nat.le_refl _⟩, ⟨by exact Kd.R_mono HO_8.out (fun _ hk => hk.2.1)⟩, ⟨by exact Kd.R_mono HO_12.out (fun _ hk => hk.1)⟩, ⟨by repeat (first | exact HB.out | apply bA | apply bN | apply bD)⟩⟩
     case rest =>
      clear HC39
      obtain ⟨kq, x84_38, rfl, HA, HJ38, HO_8, HO_12, HB⟩ := hcut
      cases kq with
      | zero => exact absurd HA.out (by simp [laws_FnExactRebuild.j1])
      | succ kj38 =>
       have H := HA.out
       clear HA
       simp only [laws_FnExactRebuild.j1] at H
       by_cases c53 : x84_38 = true
       ·subst c53
        have H1 : (some false) = some r := by rw [if_pos rfl] at H; exact H
        clear H
        have H := H1
        clear H1
        obtain rfl := Option.some.inj H
        go_wp2
        go_ret
        exact ⟨by first | rfl | (simp [errW_none, errW_some] <;> rfl) | (simp [*, errW_none, errW_some] <;> rfl), by repeat (first | exact HB.out | apply bA | apply bN | apply bD)⟩
       replace c53 := Bool.eq_false_iff.mpr c53
       subst c53
       have H1 : ((laws_markStringS.f kj38 t518 1).bind fun bt536 => ((laws_heldStringS.f kj38 bt536.2 1).bind fun t538 => (if t538 < 0 then (some false) else (if t538 = bt536.1 then ((laws_toStringS.f kj38 l1).bind fun t539 => ((laws_toBoolS.f kj38 l2).bind fun t542 => ((impl_Rebuild.f kj38 a0 t539 t542).bind fun bt545 => ((laws_eqStringS.f kj38 bt545.1 t508).bind fun t549 => (if t549 = true then (laws_FnExactRebuild.j2 kj38 bt536.2 bt536.1 (bt545.2 != t509)) else (laws_FnExactRebuild.j2 kj38 bt536.2 bt536.1 true)))))) else (some false))))) = some r := by rw [if_neg (show ¬ (false = true) by decide)] at H; exact H
       clear H
       have H := H1
       clear H1
       replace H := bm H
       obtain ⟨⟨t536, t537⟩, A540, H⟩ := H
       replace H : ((laws_heldStringS.f kj38 t537 1).bind fun t538 => (if t538 < 0 then (some false) else (if t538 = t536 then ((laws_toStringS.f kj38 l1).bind fun t539 => ((laws_toBoolS.f kj38 l2).bind fun t542 => ((impl_Rebuild.f kj38 a0 t539 t542).bind fun bt545 => ((laws_eqStringS.f kj38 bt545.1 t508).bind fun t549 => (if t549 = true then (laws_FnExactRebuild.j2 kj38 t537 t536 (bt545.2 != t509)) else (laws_FnExactRebuild.j2 kj38 t537 t536 true)))))) else (some false)))) = some r := H
       have A54 := AM A540
       clear A540
       replace H := bm H
       obtain ⟨t538, A550, H⟩ := H
       replace H : (if t538 < 0 then (some false) else (if t538 = t536 then ((laws_toStringS.f kj38 l1).bind fun t539 => ((laws_toBoolS.f kj38 l2).bind fun t542 => ((impl_Rebuild.f kj38 a0 t539 t542).bind fun bt545 => ((laws_eqStringS.f kj38 bt545.1 t508).bind fun t549 => (if t549 = true then (laws_FnExactRebuild.j2 kj38 t537 t536 (bt545.2 != t509)) else (laws_FnExactRebuild.j2 kj38 t537 t536 true)))))) else (some false))) = some r := H
       have A55 := AM A550
       clear A550
       by_cases c56 : t538 < 0
       ·rw [if_pos c56] at H
        have c56b0 : decide (t538 < 0) = true := decide_eq_true c56
        clear c56
        obtain rfl := Option.some.inj H
        obtain ⟨Ao57, co57, eo57⟩ := Kd.R_slice HO_12.out
        subst eo57
        go_wp2_with (first | ((with_reducible refine gate_callee (f := 19) rfl ?_); refine goesL_ (some 87) rfl rfl Try.func19 (by kernel_rfl) rfl #[.slice Ao57 t518.length co57, .int .i64 1] rfl (by (try simp only [List.map_toArray, List.map_cons, List.map_nil]); first | done | rfl) ?_; (with_reducible refine (laws_markStringS.calls kj38 (fun k_ => some k_ = (.slice Ao57 t518.length co57 : Value).ownBlock) (.slice Ao57 t518.length co57) t518 1 t536 t537 w _ ?side1 ?side2 A54.out).mono ?_); (case side1 => repeat (first | exact HB.out | apply bA | apply bN | apply bD)); (case side2 => exact Kd.R_tight rfl HO_12.out); rintro e w58 ⟨rfl, hy0, hb, hkp⟩; refine ⟨_, rfl, ?_⟩; have n0_ := AM (Kd.R_mono (ok' := fun k_ => some k_ ≠ (.slice Ao57 t518.length co57 : Value).ownBlock) (Kd.R_keptB (HO_8.out) hkp (fun k_ hk_ hs_ => (hk_) hs_)) (fun k_ hk_ => hk_.1)); have n1_ := AM (Kd.R_reok rfl hy0 (fun k_ e_ => HO_12.out.1 k_ e_)); have n2_ := AM (hb); clear HO_8; clear HO_12; clear HB; have HO_8 := n0_; have HO_12 := n1_; have HB := n2_; clear n0_ n1_ n2_; (try clear hb); (try clear hkp); (try clear hy0)) | ((with_reducible refine gate_callee (f := 20) rfl ?_); refine goesL_ (some 90) rfl rfl Try.func20 (by kernel_rfl) rfl #[.slice Ao57 t537.length co57, .int .i64 1] rfl (by (try simp only [List.map_toArray, List.map_cons, List.map_nil]); first | done | (rw [show t537.length = t518.length from (Kd.R_reads' HO_12.out).1.symm] <;> rfl) | rfl | (simp only [List.length_drop, List.length_take]; rfl)) ?_; (with_reducible refine (laws_heldStringS.calls kj38 _ _ t537 1 t538 _ ?side1 ?side2 A55.out).mono ?_); (case side1 => repeat (first | exact (Kd.R_reads' HO_12.out).2.2 | (with_reducible refine Kd.C_alloc ?_ _) | (with_reducible refine Kd.C_drewN ?_ _) | (with_reducible refine Kd.C_drew ?_))); (case side2 => rw [show t537.length = t518.length from (Kd.R_reads' HO_12.out).1.symm]; exact (Kd.R_reads' HO_12.out).2.1); rintro e w59 ⟨rfl, hb⟩; refine ⟨_, rfl, ?_⟩; have n0_ := AM (Kd.R_below (by exact HO_8.out) hb); have n1_ := AM (Kd.R_below (by exact HO_12.out) hb); have n2_ := AM (below_step (by repeat (first | exact HB.out | apply bA | apply bN | apply bD)) hb); clear HO_8; clear HO_12; clear HB; have HO_8 := n0_; have HO_12 := n1_; have HB := n2_; clear n0_ n1_ n2_; (try clear hb)))
        go_ret
        exact ⟨by first | rfl | (simp [errW_none, errW_some] <;> rfl) | (simp [*, errW_none, errW_some] <;> rfl), by repeat (first | exact HB.out | apply bA | apply bN | apply bD)⟩
       rw [if_neg c56] at H
       have c56b0 : decide (t538 < 0) = false := decide_eq_false c56
       clear c56
       by_cases c60 : t538 = t536
       ·rw [if_pos c60] at H
        have c60b0 : (t538 == t536) = true := beq_iff_eq.mpr c60
        have c60b1 : (t538 != t536) = false := bne_eq_false_iff_eq.mpr c60
        clear c60
        replace H := bm H
        obtain ⟨t539, A610, H⟩ := H
        replace H : ((laws_toBoolS.f kj38 l2).bind fun t542 => ((impl_Rebuild.f kj38 a0 t539 t542).bind fun bt545 => ((laws_eqStringS.f kj38 bt545.1 t508).bind fun t549 => (if t549 = true then (laws_FnExactRebuild.j2 kj38 t537 t536 (bt545.2 != t509)) else (laws_FnExactRebuild.j2 kj38 t537 t536 true))))) = some r := H
        have A61 := AM A610
        clear A610
        replace H := bm H
        obtain ⟨t542, A620, H⟩ := H
        replace H : ((impl_Rebuild.f kj38 a0 t539 t542).bind fun bt545 => ((laws_eqStringS.f kj38 bt545.1 t508).bind fun t549 => (if t549 = true then (laws_FnExactRebuild.j2 kj38 t537 t536 (bt545.2 != t509)) else (laws_FnExactRebuild.j2 kj38 t537 t536 true)))) = some r := H
        have A62 := AM A620
        clear A620
        replace H := bm H
        obtain ⟨⟨t545, t546⟩, A630, H⟩ := H
        replace H : ((laws_eqStringS.f kj38 t545 t508).bind fun t549 => (if t549 = true then (laws_FnExactRebuild.j2 kj38 t537 t536 (t546 != t509)) else (laws_FnExactRebuild.j2 kj38 t537 t536 true))) = some r := H
        have A63 := AM A630
        clear A630
        have HC64 := AM H
        clear H
        obtain ⟨Ao65, co65, eo65⟩ := Kd.R_slice HO_12.out
        subst eo65
        go_upto_region 31 with (first | ((with_reducible refine gate_callee (f := 19) rfl ?_); refine goesL_ (some 87) rfl rfl Try.func19 (by kernel_rfl) rfl #[.slice Ao65 t518.length co65, .int .i64 1] rfl (by (try simp only [List.map_toArray, List.map_cons, List.map_nil]); first | done | rfl) ?_; (with_reducible refine (laws_markStringS.calls kj38 (fun k_ => some k_ = (.slice Ao65 t518.length co65 : Value).ownBlock) (.slice Ao65 t518.length co65) t518 1 t536 t537 w _ ?side1 ?side2 A54.out).mono ?_); (case side1 => repeat (first | exact HB.out | apply bA | apply bN | apply bD)); (case side2 => exact Kd.R_tight rfl HO_12.out); rintro e w66 ⟨rfl, hy0, hb, hkp⟩; refine ⟨_, rfl, ?_⟩; have n0_ := AM (Kd.R_mono (ok' := fun k_ => some k_ ≠ (.slice Ao65 t518.length co65 : Value).ownBlock) (Kd.R_keptB (HO_8.out) hkp (fun k_ hk_ hs_ => (hk_) hs_)) (fun k_ hk_ => hk_.1)); have n1_ := AM (Kd.R_reok rfl hy0 (fun k_ e_ => HO_12.out.1 k_ e_)); have n2_ := AM (hb); clear HO_8; clear HO_12; clear HB; have HO_8 := n0_; have HO_12 := n1_; have HB := n2_; clear n0_ n1_ n2_; (try clear hb); (try clear hkp); (try clear hy0)) | ((with_reducible refine gate_callee (f := 20) rfl ?_); refine goesL_ (some 90) rfl rfl Try.func20 (by kernel_rfl) rfl #[.slice Ao65 t537.length co65, .int .i64 1] rfl (by (try simp only [List.map_toArray, List.map_cons, List.map_nil]); first | done | (rw [show t537.length = t518.length from (Kd.R_reads' HO_12.out).1.symm] <;> rfl) | rfl | (simp only [List.length_drop, List.length_take]; rfl)) ?_; (with_reducible refine (laws_heldStringS.calls kj38 _ _ t537 1 t538 _ ?side1 ?side2 A55.out).mono ?_); (case side1 => repeat (first | exact (Kd.R_reads' HO_12.out).2.2 | (with_reducible refine Kd.C_alloc ?_ _) | (with_reducible refine Kd.C_drewN ?_ _) | (with_reducible refine Kd.C_drew ?_))); (case side2 => rw [show t537.length = t518.length from (Kd.R_reads' HO_12.out).1.symm]; exact (Kd.R_reads' HO_12.out).2.1); rintro e w67 ⟨rfl, hb⟩; refine ⟨_, rfl, ?_⟩; have n0_ := AM (Kd.R_below (by exact HO_8.out) hb); have n1_ := AM (Kd.R_below (by exact HO_12.out) hb); have n2_ := AM (below_step (by repeat (first | exact HB.out | apply bA | apply bN | apply bD)) hb); clear HO_8; clear HO_12; clear HB; have HO_8 := n0_; have HO_12 := n1_; have HB := n2_; clear n0_ n1_ n2_; (try clear hb)) | ((with_reducible refine gate_callee (f := 17) rfl ?_); refine goesL_ (some 99) rfl rfl Try.func17 (by kernel_rfl) rfl #[.slice A1 l1.length c1] rfl (by (try simp only [List.map_toArray, List.map_cons, List.map_nil]); first | done | rfl) ?_; (with_reducible refine (laws_toStringS.calls kj38 _ _ l1 t539 _ ?side1 ?side2 A61.out).mono ?_); (case side1 => repeat (first | exact (Kd.C_below HR1.out HB.out) | (with_reducible refine Kd.C_alloc ?_ _) | (with_reducible refine Kd.C_drewN ?_ _) | (with_reducible refine Kd.C_drew ?_))); (case side2 => exact HC1.out); rintro e w68 ⟨v540, rfl, ho0, hb⟩; refine ⟨_, rfl, ?_⟩; have n0_ := AM (Kd.R_elder' (by exact HO_8.out) (Kd.R_base ho0) hb); have n1_ := AM (Kd.R_elder' (by exact HO_12.out) (Kd.R_base ho0) hb); have n2_ := AM (Kd.R_lower (Kd.R_new' (Kd.R_new' ho0 (Kd.R_lt (by exact HO_8.out))) (Kd.R_lt (by exact HO_12.out))) (below_size (by repeat (first | exact HB.out | apply bA | apply bN | apply bD)))); have n3_ := AM (below_step (by repeat (first | exact HB.out | apply bA | apply bN | apply bD)) hb); clear HO_8; clear HO_12; clear HB; have HO_8 := n0_; have HO_12 := n1_; have HO541 := n2_; have HB := n3_; clear n0_ n1_ n2_ n3_; (try clear hb); (try clear ho0)) | ((with_reducible refine gate_callee (f := 22) rfl ?_); refine goesL_ (some 101) rfl rfl Try.func22 (by kernel_rfl) rfl #[.slice A2 l2.length c2] rfl (by (try simp only [List.map_toArray, List.map_cons, List.map_nil]); first | done | rfl) ?_; (with_reducible refine (laws_toBoolS.calls kj38 _ _ l2 t542 _ ?side1 ?side2 A62.out).mono ?_); (case side1 => repeat (first | exact (Kd.C_below HR2.out HB.out) | (with_reducible refine Kd.C_alloc ?_ _) | (with_reducible refine Kd.C_drewN ?_ _) | (with_reducible refine Kd.C_drew ?_))); (case side2 => exact HC2.out); rintro e w69 ⟨v543, rfl, ho0, hb⟩; refine ⟨_, rfl, ?_⟩; have n0_ := AM (Kd.R_below (by exact HO_8.out) hb); have n1_ := AM (Kd.R_below (by exact HO_12.out) hb); have n2_ := AM (Kd.R_below (by exact HO541.out) hb); have n3_ := AM (Kd.R_lower ho0 (below_size (by repeat (first | exact HB.out | apply bA | apply bN | apply bD)))); have n4_ := AM (below_step (by repeat (first | exact HB.out | apply bA | apply bN | apply bD)) hb); clear HO_8; clear HO_12; clear HO541; clear HB; have HO_8 := n0_; have HO_12 := n1_; have HO541 := n2_; have HO544 := n3_; have HB := n4_; clear n0_ n1_ n2_ n3_ n4_; (try clear hb); (try clear ho0); obtain ⟨Ao70, co70, eo70⟩ := Kd.R_slice HO541.out; subst eo70; obtain ⟨Ao71, co71, eo71⟩ := Kd.R_slice HO544.out; subst eo71) | ((with_reducible refine gate_callee (f := 15) rfl ?_); refine goesL_ (some 102) rfl rfl Try.func15 (by kernel_rfl) rfl #[.int .i64 a0, .slice Ao70 t539.length co70, .slice Ao71 t542.length co71] rfl (by (try simp only [List.map_toArray, List.map_cons, List.map_nil]); first | done | rfl) ?_; (with_reducible refine (impl_Rebuild.calls kj38 a0 _ _ t539 _ _ t542 t545 t546 _ ?side1 ?side2 ?side3 ?side4 A63.out).mono ?_); (case side1 => repeat (first | exact (Kd.R_reads' HO541.out).2.2 | (with_reducible refine Kd.C_alloc ?_ _) | (with_reducible refine Kd.C_drewN ?_ _) | (with_reducible refine Kd.C_drew ?_))); (case side2 => exact (Kd.R_reads' HO541.out).2.1); (case side3 => repeat (first | exact (Kd.R_reads' HO544.out).2.2 | (with_reducible refine Kd.C_alloc ?_ _) | (with_reducible refine Kd.C_drewN ?_ _) | (with_reducible refine Kd.C_drew ?_))); (case side4 => exact (Kd.R_reads' HO544.out).2.1); rintro e w72 ⟨v547, rfl, ho0, hb⟩; refine ⟨_, rfl, ?_⟩; have n0_ := AM (Kd.R_elder' (by exact HO_8.out) (Kd.R_base ho0) hb); have n1_ := AM (Kd.R_elder' (by exact HO_12.out) (Kd.R_base ho0) hb); have n2_ := AM (Kd.R_elder' (by exact HO541.out) (Kd.R_base ho0) hb); have n3_ := AM (Kd.R_below (by exact HO544.out) hb); have n4_ := AM (Kd.R_lower (Kd.R_new' (Kd.R_new' (Kd.R_new' ho0 (Kd.R_lt (by exact HO_8.out))) (Kd.R_lt (by exact HO_12.out))) (Kd.R_lt (by exact HO541.out))) (below_size (by repeat (first | exact HB.out | apply bA | apply bN | apply bD)))); have n5_ := AM (below_step (by repeat (first | exact HB.out | apply bA | apply bN | apply bD)) hb); clear HO_8; clear HO_12; clear HO541; clear HO544; clear HB; have HO_8 := n0_; have HO_12 := n1_; have HO541 := n2_; have HO544 := n3_; have HO548 := n4_; have HB := n5_; clear n0_ n1_ n2_ n3_ n4_ n5_; (try clear hb); (try clear ho0)))
        (try simp only [Act.put, qT, q0, qS])
        go_cut [113] (fun v113 wc => ∃ (kq : Nat) (x113_63 : Bool), v113 = .bool x113_63 ∧ Aside0 (laws_FnExactRebuild.j2 kq t537 t536 x113_63 = some r) ∧ Aside0 (kq ≤ kj38) ∧ Aside0 (Kd.R Kd.string 9 wc w.heap.size (fun _ => True) (.slice Ao65 t518.length co65) t537) ∧ Aside0 (Below w.heap.size w wc))
        case first =>
         have H := HC64.out
         clear HC64
         replace H := bm H
         obtain ⟨t549, A730, H⟩ := H
         replace H : (if t549 = true then (laws_FnExactRebuild.j2 kj38 t537 t536 (t546 != t509)) else (laws_FnExactRebuild.j2 kj38 t537 t536 true)) = some r := H
         have A73 := AM A730
         clear A730
         by_cases c74 : t549 = true
         ·subst c74
          have H1 : (laws_FnExactRebuild.j2 kj38 t537 t536 (t546 != t509)) = some r := by rw [if_pos rfl] at H; exact H
          clear H
          have H := H1
          clear H1
          have H' := AM H
          clear H
          obtain ⟨Ao75, co75, eo75⟩ := Kd.R_slice HO548.out
          subst eo75
          obtain ⟨Ao76, co76, eo76⟩ := Kd.R_slice HO_8.out
          subst eo76
          go_wp2_with (first | ((with_reducible refine gate_callee (f := 18) rfl ?_); refine goesL_ (some 107) rfl rfl Try.func18 (by kernel_rfl) rfl #[.slice Ao75 t545.length co75, .slice Ao76 t508.length co76] rfl (by (try simp only [List.map_toArray, List.map_cons, List.map_nil]); first | done | rfl) ?_; (with_reducible refine (laws_eqStringS.calls kj38 _ _ t545 _ _ t508 true _ ?side1 ?side2 ?side3 ?side4 A73.out).mono ?_); (case side1 => repeat (first | exact (Kd.R_reads' HO548.out).2.2 | (with_reducible refine Kd.C_alloc ?_ _) | (with_reducible refine Kd.C_drewN ?_ _) | (with_reducible refine Kd.C_drew ?_))); (case side2 => exact (Kd.R_reads' HO548.out).2.1); (case side3 => repeat (first | exact (Kd.R_reads' HO_8.out).2.2 | (with_reducible refine Kd.C_alloc ?_ _) | (with_reducible refine Kd.C_drewN ?_ _) | (with_reducible refine Kd.C_drew ?_))); (case side4 => exact (Kd.R_reads' HO_8.out).2.1); rintro e w' ⟨rfl, ⟨nd, rfl⟩⟩; refine ⟨_, rfl, ?_⟩))
          go_meet
          case rel => exact ⟨_, ((t546 != t509)), (by first | rfl | (simp; done) | (simp [*]; done)), H', ⟨by have := HJ12.out; have := HJ38.out; first | omega | exact Nat.le_refl _⟩, ⟨by exact Kd.R_mono HO_12.out (fun _ hk => trivial)⟩, ⟨by repeat (first | exact HB.out | apply bA | apply bN | apply bD)⟩⟩
         replace c74 := Bool.eq_false_iff.mpr c74
         subst c74
         have H1 : (laws_FnExactRebuild.j2 kj38 t537 t536 true) = some r := by rw [if_neg (show ¬ (false = true) by decide)] at H; exact H
         clear H
         have H := H1
         clear H1
         have H' := AM H
         clear H
         obtain ⟨Ao77, co77, eo77⟩ := Kd.R_slice HO548.out
         subst eo77
         obtain ⟨Ao78, co78, eo78⟩ := Kd.R_slice HO_8.out
         subst eo78
         go_wp2_with (first | ((with_reducible refine gate_callee (f := 18) rfl ?_); refine goesL_ (some 107) rfl rfl Try.func18 (by kernel_rfl) rfl #[.slice Ao77 t545.length co77, .slice Ao78 t508.length co78] rfl (by (try simp only [List.map_toArray, List.map_cons, List.map_nil]); first | done | rfl) ?_; (with_reducible refine (laws_eqStringS.calls kj38 _ _ t545 _ _ t508 false _ ?side1 ?side2 ?side3 ?side4 A73.out).mono ?_); (case side1 => repeat (first | exact (Kd.R_reads' HO548.out).2.2 | (with_reducible refine Kd.C_alloc ?_ _) | (with_reducible refine Kd.C_drewN ?_ _) | (with_reducible refine Kd.C_drew ?_))); (case side2 => exact (Kd.R_reads' HO548.out).2.1); (case side3 => repeat (first | exact (Kd.R_reads' HO_8.out).2.2 | (with_reducible refine Kd.C_alloc ?_ _) | (with_reducible refine Kd.C_drewN ?_ _) | (with_reducible refine Kd.C_drew ?_))); (case side4 => exact (Kd.R_reads' HO_8.out).2.1); rintro e w' ⟨rfl, ⟨nd, rfl⟩⟩; refine ⟨_, rfl, ?_⟩))
         go_meet
         case rel => exact ⟨_, (true), (by first | rfl | (simp; done) | (simp [*]; done)), H', ⟨by have := HJ12.out; have := HJ38.out; first | omega | exact Nat.le_refl _⟩, ⟨by exact Kd.R_mono HO_12.out (fun _ hk => trivial)⟩, ⟨by repeat (first | exact HB.out | apply bA | apply bN | apply bD)⟩⟩
        case rest =>
         clear HC64
         obtain ⟨kq, x113_63, rfl, HA, HJ63, HO_12, HB⟩ := hcut
         have hl12_63 := (Kd.R_reads' HO_12.out).1
         rw [hl12_63] at HO_12
         (try simp only [hl12_63])
         cases kq with
         | zero => exact absurd HA.out (by simp [laws_FnExactRebuild.j2])
         | succ kj63 =>
          have H := HA.out
          clear HA
          simp only [laws_FnExactRebuild.j2] at H
          by_cases c79 : x113_63 = true
          ·subst c79
           have H1 : (some false) = some r := by rw [if_pos rfl] at H; exact H
           clear H
           have H := H1
           clear H1
           obtain rfl := Option.some.inj H
           go_wp2
           go_ret
           exact ⟨by first | rfl | (simp [errW_none, errW_some] <;> rfl) | (simp [*, errW_none, errW_some] <;> rfl), by repeat (first | exact HB.out | apply bA | apply bN | apply bD)⟩
          replace c79 := Bool.eq_false_iff.mpr c79
          subst c79
          have H1 : ((laws_heldStringS.f kj63 t537 1).bind fun t550 => (if t550 < 0 then (some false) else (if t550 = t536 then (some true) else (some false)))) = some r := by rw [if_neg (show ¬ (false = true) by decide)] at H; exact H
          clear H
          have H := H1
          clear H1
          replace H := bm H
          obtain ⟨t550, A800, H⟩ := H
          replace H : (if t550 < 0 then (some false) else (if t550 = t536 then (some true) else (some false))) = some r := H
          have A80 := AM A800
          clear A800
          by_cases c81 : t550 < 0
          ·rw [if_pos c81] at H
           have c81b0 : decide (t550 < 0) = true := decide_eq_true c81
           clear c81
           obtain rfl := Option.some.inj H
           go_wp2_with (first | ((with_reducible refine gate_callee (f := 20) rfl ?_); refine goesL_ (some 116) rfl rfl Try.func20 (by kernel_rfl) rfl #[.slice Ao65 t537.length co65, .int .i64 1] rfl (by (try simp only [List.map_toArray, List.map_cons, List.map_nil]); first | done | rfl) ?_; (with_reducible refine (laws_heldStringS.calls kj63 _ _ t537 1 t550 _ ?side1 ?side2 A80.out).mono ?_); (case side1 => repeat (first | exact (Kd.R_reads' HO_12.out).2.2 | (with_reducible refine Kd.C_alloc ?_ _) | (with_reducible refine Kd.C_drewN ?_ _) | (with_reducible refine Kd.C_drew ?_))); (case side2 => exact (Kd.R_reads' HO_12.out).2.1); rintro e w82 ⟨rfl, hb⟩; refine ⟨_, rfl, ?_⟩; have n0_ := AM (Kd.R_below (by exact HO_12.out) hb); have n1_ := AM (below_step (by repeat (first | exact HB.out | apply bA | apply bN | apply bD)) hb); clear HO_12; clear HB; have HO_12 := n0_; have HB := n1_; clear n0_ n1_; (try clear hb)))
           go_ret
           exact ⟨by first | rfl | (simp [errW_none, errW_some] <;> rfl) | (simp [*, errW_none, errW_some] <;> rfl), by repeat (first | exact HB.out | apply bA | apply bN | apply bD)⟩
          rw [if_neg c81] at H
          have c81b0 : decide (t550 < 0) = false := decide_eq_false c81
          clear c81
          by_cases c83 : t550 = t536
          ·rw [if_pos c83] at H
           have c83b0 : (t550 == t536) = true := beq_iff_eq.mpr c83
           have c83b1 : (t550 != t536) = false := bne_eq_false_iff_eq.mpr c83
           clear c83
           obtain rfl := Option.some.inj H
           go_wp2_with (first | ((with_reducible refine gate_callee (f := 20) rfl ?_); refine goesL_ (some 116) rfl rfl Try.func20 (by kernel_rfl) rfl #[.slice Ao65 t537.length co65, .int .i64 1] rfl (by (try simp only [List.map_toArray, List.map_cons, List.map_nil]); first | done | rfl) ?_; (with_reducible refine (laws_heldStringS.calls kj63 _ _ t537 1 t550 _ ?side1 ?side2 A80.out).mono ?_); (case side1 => repeat (first | exact (Kd.R_reads' HO_12.out).2.2 | (with_reducible refine Kd.C_alloc ?_ _) | (with_reducible refine Kd.C_drewN ?_ _) | (with_reducible refine Kd.C_drew ?_))); (case side2 => exact (Kd.R_reads' HO_12.out).2.1); rintro e w84 ⟨rfl, hb⟩; refine ⟨_, rfl, ?_⟩; have n0_ := AM (Kd.R_below (by exact HO_12.out) hb); have n1_ := AM (below_step (by repeat (first | exact HB.out | apply bA | apply bN | apply bD)) hb); clear HO_12; clear HB; have HO_12 := n0_; have HB := n1_; clear n0_ n1_; (try clear hb)))
           go_ret
           exact ⟨by first | rfl | (simp [errW_none, errW_some] <;> rfl) | (simp [*, errW_none, errW_some] <;> rfl), by repeat (first | exact HB.out | apply bA | apply bN | apply bD)⟩
          rw [if_neg c83] at H
          have c83b0 : (t550 == t536) = false := beq_eq_false_iff_ne.mpr c83
          have c83b1 : (t550 != t536) = true := bne_iff_ne.mpr c83
          obtain rfl := Option.some.inj H
          go_wp2_with (first | ((with_reducible refine gate_callee (f := 20) rfl ?_); refine goesL_ (some 116) rfl rfl Try.func20 (by kernel_rfl) rfl #[.slice Ao65 t537.length co65, .int .i64 1] rfl (by (try simp only [List.map_toArray, List.map_cons, List.map_nil]); first | done | rfl) ?_; (with_reducible refine (laws_heldStringS.calls kj63 _ _ t537 1 t550 _ ?side1 ?side2 A80.out).mono ?_); (case side1 => repeat (first | exact (Kd.R_reads' HO_12.out).2.2 | (with_reducible refine Kd.C_alloc ?_ _) | (with_reducible refine Kd.C_drewN ?_ _) | (with_reducible refine Kd.C_drew ?_))); (case side2 => exact (Kd.R_reads' HO_12.out).2.1); rintro e w85 ⟨rfl, hb⟩; refine ⟨_, rfl, ?_⟩; have n0_ := AM (Kd.R_below (by exact HO_12.out) hb); have n1_ := AM (below_step (by repeat (first | exact HB.out | apply bA | apply bN | apply bD)) hb); clear HO_12; clear HB; have HO_12 := n0_; have HB := n1_; clear n0_ n1_; (try clear hb)))
          go_ret
          exact ⟨by first | rfl | (simp [errW_none, errW_some] <;> rfl) | (simp [*, errW_none, errW_some] <;> rfl), by repeat (first | exact HB.out | apply bA | apply bN | apply bD)⟩
       rw [if_neg c60] at H
       have c60b0 : (t538 == t536) = false := beq_eq_false_iff_ne.mpr c60
       have c60b1 : (t538 != t536) = true := bne_iff_ne.mpr c60
       obtain rfl := Option.some.inj H
       obtain ⟨Ao86, co86, eo86⟩ := Kd.R_slice HO_12.out
       subst eo86
       go_wp2_with (first | ((with_reducible refine gate_callee (f := 19) rfl ?_); refine goesL_ (some 87) rfl rfl Try.func19 (by kernel_rfl) rfl #[.slice Ao86 t518.length co86, .int .i64 1] rfl (by (try simp only [List.map_toArray, List.map_cons, List.map_nil]); first | done | rfl) ?_; (with_reducible refine (laws_markStringS.calls kj38 (fun k_ => some k_ = (.slice Ao86 t518.length co86 : Value).ownBlock) (.slice Ao86 t518.length co86) t518 1 t536 t537 w _ ?side1 ?side2 A54.out).mono ?_); (case side1 => repeat (first | exact HB.out | apply bA | apply bN | apply bD)); (case side2 => exact Kd.R_tight rfl HO_12.out); rintro e w87 ⟨rfl, hy0, hb, hkp⟩; refine ⟨_, rfl, ?_⟩; have n0_ := AM (Kd.R_mono (ok' := fun k_ => some k_ ≠ (.slice Ao86 t518.length co86 : Value).ownBlock) (Kd.R_keptB (HO_8.out) hkp (fun k_ hk_ hs_ => (hk_) hs_)) (fun k_ hk_ => hk_.1)); have n1_ := AM (Kd.R_reok rfl hy0 (fun k_ e_ => HO_12.out.1 k_ e_)); have n2_ := AM (hb); clear HO_8; clear HO_12; clear HB; have HO_8 := n0_; have HO_12 := n1_; have HB := n2_; clear n0_ n1_ n2_; (try clear hb); (try clear hkp); (try clear hy0)) | ((with_reducible refine gate_callee (f := 20) rfl ?_); refine goesL_ (some 90) rfl rfl Try.func20 (by kernel_rfl) rfl #[.slice Ao86 t537.length co86, .int .i64 1] rfl (by (try simp only [List.map_toArray, List.map_cons, List.map_nil]); first | done | (rw [show t537.length = t518.length from (Kd.R_reads' HO_12.out).1.symm] <;> rfl) | rfl | (simp only [List.length_drop, List.length_take]; rfl)) ?_; (with_reducible refine (laws_heldStringS.calls kj38 _ _ t537 1 t538 _ ?side1 ?side2 A55.out).mono ?_); (case side1 => repeat (first | exact (Kd.R_reads' HO_12.out).2.2 | (with_reducible refine Kd.C_alloc ?_ _) | (with_reducible refine Kd.C_drewN ?_ _) | (with_reducible refine Kd.C_drew ?_))); (case side2 => rw [show t537.length = t518.length from (Kd.R_reads' HO_12.out).1.symm]; exact (Kd.R_reads' HO_12.out).2.1); rintro e w88 ⟨rfl, hb⟩; refine ⟨_, rfl, ?_⟩; have n0_ := AM (Kd.R_below (by exact HO_8.out) hb); have n1_ := AM (Kd.R_below (by exact HO_12.out) hb); have n2_ := AM (below_step (by repeat (first | exact HB.out | apply bA | apply bN | apply bD)) hb); clear HO_8; clear HO_12; clear HB; have HO_8 := n0_; have HO_12 := n1_; have HB := n2_; clear n0_ n1_ n2_; (try clear hb)))
       go_ret
       exact ⟨by first | rfl | (simp [errW_none, errW_some] <;> rfl) | (simp [*, errW_none, errW_some] <;> rfl), by repeat (first | exact HB.out | apply bA | apply bN | apply bD)⟩
    replace c36 := Bool.eq_false_iff.mpr c36
    subst c36
    have H1 : (some false) = some r := by rw [if_neg (show ¬ (false = true) by decide)] at H; exact H
    clear H
    have H := H1
    clear H1
    obtain rfl := Option.some.inj H
    go_wp2_with (first | ((with_reducible refine gate_callee (f := 17) rfl ?_); refine goesL_ (some 58) rfl rfl Try.func17 (by kernel_rfl) rfl #[.slice A1 l1.length c1] rfl (by (try simp only [List.map_toArray, List.map_cons, List.map_nil]); first | done | rfl) ?_; (with_reducible refine (laws_toStringS.calls kj12 _ _ l1 t523 _ ?side1 ?side2 A31.out).mono ?_); (case side1 => repeat (first | exact (Kd.C_below HR1.out HB.out) | (with_reducible refine Kd.C_alloc ?_ _) | (with_reducible refine Kd.C_drewN ?_ _) | (with_reducible refine Kd.C_drew ?_))); (case side2 => exact HC1.out); rintro e w89 ⟨v524, rfl, ho0, hb⟩; refine ⟨_, rfl, ?_⟩; have n0_ := AM (Kd.R_elder' (by exact HO_8.out) (Kd.R_base ho0) hb); have n1_ := AM (Kd.R_elder' (by exact HO_10.out) (Kd.R_base ho0) hb); have n2_ := AM (Kd.R_below (by exact HO_11.out) hb); have n3_ := AM (Kd.R_elder' (by exact HO_12.out) (Kd.R_base ho0) hb); have n4_ := AM (Kd.R_lower (Kd.R_new' (Kd.R_new' (Kd.R_new' ho0 (Kd.R_lt (by exact HO_8.out))) (Kd.R_lt (by exact HO_10.out))) (Kd.R_lt (by exact HO_12.out))) (below_size (by repeat (first | exact HB.out | apply bA | apply bN | apply bD)))); have n5_ := AM (below_step (by repeat (first | exact HB.out | apply bA | apply bN | apply bD)) hb); clear HO_8; clear HO_10; clear HO_11; clear HO_12; clear HB; have HO_8 := n0_; have HO_10 := n1_; have HO_11 := n2_; have HO_12 := n3_; have HO525 := n4_; have HB := n5_; clear n0_ n1_ n2_ n3_ n4_ n5_; (try clear hb); (try clear ho0); obtain ⟨Ao90, co90, eo90⟩ := Kd.R_slice HO525.out; subst eo90) | ((with_reducible refine gate_callee (f := 18) rfl ?_); refine goesL_ (some 59) rfl rfl Try.func18 (by kernel_rfl) rfl #[.slice Ao21 t512.length co21, .slice Ao90 t523.length co90] rfl (by (try simp only [List.map_toArray, List.map_cons, List.map_nil]); first | done | rfl) ?_; (with_reducible refine (laws_eqStringS.calls kj12 _ _ t512 _ _ t523 true _ ?side1 ?side2 ?side3 ?side4 A32.out).mono ?_); (case side1 => repeat (first | exact (Kd.R_reads' HO_10.out).2.2 | (with_reducible refine Kd.C_alloc ?_ _) | (with_reducible refine Kd.C_drewN ?_ _) | (with_reducible refine Kd.C_drew ?_))); (case side2 => exact (Kd.R_reads' HO_10.out).2.1); (case side3 => repeat (first | exact (Kd.R_reads' HO525.out).2.2 | (with_reducible refine Kd.C_alloc ?_ _) | (with_reducible refine Kd.C_drewN ?_ _) | (with_reducible refine Kd.C_drew ?_))); (case side4 => exact (Kd.R_reads' HO525.out).2.1); rintro e w' ⟨rfl, ⟨nd, rfl⟩⟩; refine ⟨_, rfl, ?_⟩) | ((with_reducible refine gate_callee (f := 22) rfl ?_); refine goesL_ (some 63) rfl rfl Try.func22 (by kernel_rfl) rfl #[.slice A2 l2.length c2] rfl (by (try simp only [List.map_toArray, List.map_cons, List.map_nil]); first | done | rfl) ?_; (with_reducible refine (laws_toBoolS.calls kj12 _ _ l2 t527 _ ?side1 ?side2 A34.out).mono ?_); (case side1 => repeat (first | exact (Kd.C_below HR2.out (by repeat (first | exact HB.out | apply bA | apply bN | apply bD))) | (with_reducible refine Kd.C_alloc ?_ _) | (with_reducible refine Kd.C_drewN ?_ _) | (with_reducible refine Kd.C_drew ?_))); (case side2 => exact HC2.out); rintro e w91 ⟨v528, rfl, ho0, hb⟩; refine ⟨_, rfl, ?_⟩; have n0_ := AM (Kd.R_below (by exact HO_8.out) hb); have n1_ := AM (Kd.R_below (by exact HO_10.out) hb); have n2_ := AM (Kd.R_elder' (by exact HO_11.out) (Kd.R_base ho0) hb); have n3_ := AM (Kd.R_below (by exact HO_12.out) hb); have n4_ := AM (Kd.R_below (by exact HO525.out) hb); have n5_ := AM (Kd.R_lower (Kd.R_new' ho0 (Kd.R_lt (by exact HO_11.out))) (below_size (by repeat (first | exact HB.out | apply bA | apply bN | apply bD)))); have n6_ := AM (below_step (by repeat (first | exact HB.out | apply bA | apply bN | apply bD)) hb); clear HO_8; clear HO_10; clear HO_11; clear HO_12; clear HO525; clear HB; have HO_8 := n0_; have HO_10 := n1_; have HO_11 := n2_; have HO_12 := n3_; have HO525 := n4_; have HO529 := n5_; have HB := n6_; clear n0_ n1_ n2_ n3_ n4_ n5_ n6_; (try clear hb); (try clear ho0); obtain ⟨Ao92, co92, eo92⟩ := Kd.R_slice HO529.out; subst eo92) | ((with_reducible refine gate_callee (f := 23) rfl ?_); refine goesL_ (some 64) rfl rfl Try.func23 (by kernel_rfl) rfl #[.slice Ao22 t515.length co22, .slice Ao92 t527.length co92] rfl (by (try simp only [List.map_toArray, List.map_cons, List.map_nil]); first | done | rfl) ?_; (with_reducible refine (laws_eqBoolS.calls kj12 _ _ t515 _ _ t527 false _ ?side1 ?side2 ?side3 ?side4 A35.out).mono ?_); (case side1 => repeat (first | exact (Kd.R_reads' HO_11.out).2.2 | (with_reducible refine Kd.C_alloc ?_ _) | (with_reducible refine Kd.C_drewN ?_ _) | (with_reducible refine Kd.C_drew ?_))); (case side2 => exact (Kd.R_reads' HO_11.out).2.1); (case side3 => repeat (first | exact (Kd.R_reads' HO529.out).2.2 | (with_reducible refine Kd.C_alloc ?_ _) | (with_reducible refine Kd.C_drewN ?_ _) | (with_reducible refine Kd.C_drew ?_))); (case side4 => exact (Kd.R_reads' HO529.out).2.1); rintro e w' ⟨rfl, ⟨nd, rfl⟩⟩; refine ⟨_, rfl, ?_⟩))
    go_ret
    exact ⟨by first | rfl | (simp [errW_none, errW_some] <;> rfl) | (simp [*, errW_none, errW_some] <;> rfl), by repeat (first | exact HB.out | apply bA | apply bN | apply bD)⟩
   replace c33 := Bool.eq_false_iff.mpr c33
   subst c33
   have H1 : (some false) = some r := by rw [if_neg (show ¬ (false = true) by decide)] at H; exact H
   clear H
   have H := H1
   clear H1
   obtain rfl := Option.some.inj H
   go_wp2_with (first | ((with_reducible refine gate_callee (f := 17) rfl ?_); refine goesL_ (some 58) rfl rfl Try.func17 (by kernel_rfl) rfl #[.slice A1 l1.length c1] rfl (by (try simp only [List.map_toArray, List.map_cons, List.map_nil]); first | done | rfl) ?_; (with_reducible refine (laws_toStringS.calls kj12 _ _ l1 t523 _ ?side1 ?side2 A31.out).mono ?_); (case side1 => repeat (first | exact (Kd.C_below HR1.out HB.out) | (with_reducible refine Kd.C_alloc ?_ _) | (with_reducible refine Kd.C_drewN ?_ _) | (with_reducible refine Kd.C_drew ?_))); (case side2 => exact HC1.out); rintro e w93 ⟨v524, rfl, ho0, hb⟩; refine ⟨_, rfl, ?_⟩; have n0_ := AM (Kd.R_elder' (by exact HO_8.out) (Kd.R_base ho0) hb); have n1_ := AM (Kd.R_elder' (by exact HO_10.out) (Kd.R_base ho0) hb); have n2_ := AM (Kd.R_below (by exact HO_11.out) hb); have n3_ := AM (Kd.R_elder' (by exact HO_12.out) (Kd.R_base ho0) hb); have n4_ := AM (Kd.R_lower (Kd.R_new' (Kd.R_new' (Kd.R_new' ho0 (Kd.R_lt (by exact HO_8.out))) (Kd.R_lt (by exact HO_10.out))) (Kd.R_lt (by exact HO_12.out))) (below_size (by repeat (first | exact HB.out | apply bA | apply bN | apply bD)))); have n5_ := AM (below_step (by repeat (first | exact HB.out | apply bA | apply bN | apply bD)) hb); clear HO_8; clear HO_10; clear HO_11; clear HO_12; clear HB; have HO_8 := n0_; have HO_10 := n1_; have HO_11 := n2_; have HO_12 := n3_; have HO525 := n4_; have HB := n5_; clear n0_ n1_ n2_ n3_ n4_ n5_; (try clear hb); (try clear ho0); obtain ⟨Ao94, co94, eo94⟩ := Kd.R_slice HO525.out; subst eo94) | ((with_reducible refine gate_callee (f := 18) rfl ?_); refine goesL_ (some 59) rfl rfl Try.func18 (by kernel_rfl) rfl #[.slice Ao21 t512.length co21, .slice Ao94 t523.length co94] rfl (by (try simp only [List.map_toArray, List.map_cons, List.map_nil]); first | done | rfl) ?_; (with_reducible refine (laws_eqStringS.calls kj12 _ _ t512 _ _ t523 false _ ?side1 ?side2 ?side3 ?side4 A32.out).mono ?_); (case side1 => repeat (first | exact (Kd.R_reads' HO_10.out).2.2 | (with_reducible refine Kd.C_alloc ?_ _) | (with_reducible refine Kd.C_drewN ?_ _) | (with_reducible refine Kd.C_drew ?_))); (case side2 => exact (Kd.R_reads' HO_10.out).2.1); (case side3 => repeat (first | exact (Kd.R_reads' HO525.out).2.2 | (with_reducible refine Kd.C_alloc ?_ _) | (with_reducible refine Kd.C_drewN ?_ _) | (with_reducible refine Kd.C_drew ?_))); (case side4 => exact (Kd.R_reads' HO525.out).2.1); rintro e w' ⟨rfl, ⟨nd, rfl⟩⟩; refine ⟨_, rfl, ?_⟩))
   go_ret
   exact ⟨by first | rfl | (simp [errW_none, errW_some] <;> rfl) | (simp [*, errW_none, errW_some] <;> rfl), by repeat (first | exact HB.out | apply bA | apply bN | apply bD)⟩
def laws_FnExactRebuild.Pure : Prop := ∀ (a0 : Int) (l1 : List ByteArray) (l2 : List Bool), (Lit.int .i64 a0).wf = true → (Wide.WfList Wide.WfStr) l1 → (Wide.WfList Wide.WfBool) l2 → ∃ k, laws_FnExactRebuild.f k a0 l1 l2 = some true
end Go.Proofs.Ytcpcphdhaboekaa.XFnExactRebuild
