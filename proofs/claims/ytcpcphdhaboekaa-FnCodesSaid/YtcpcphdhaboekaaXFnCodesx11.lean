/- What the functions of a law compute, and that their calls compute it: written by a program of this session (xprint.py), which turns the kit print at a few places. -/
import Derived.Test.YtcpcphdhaboekaaXFnCodesx0
import Derived.Test.YtcpcphdhaboekaaXFnCodesx1
import Derived.Test.YtcpcphdhaboekaaXFnCodesx4
import Derived.Test.YtcpcphdhaboekaaXFnCodesx7
import Derived.Test.YtcpcphdhaboekaaXFnCodesx8
import Derived.Test.YtcpcphdhaboekaaXFnCodesx9
import Derived.Test.YtcpcphdhaboekaaXFnCodesx10
namespace Go.Proofs.Ytcpcphdhaboekaa.XFnCodes
open Go.RowKit Go.Proofs.YtcpcphdhaboekaaT.PrintWords Go.Proofs.YtcpcphdhaboekaaT.PrintLast Go.Proofs.YtcpcphdhaboekaaT.PrintMore
attribute [local go_sem] max2_int min2_int max_two min_two max_three min_three max_four min_four   -- for this text's walks alone
set_option linter.unusedVariables false
set_option linter.unusedSimpArgs false

/-! ### impl_Rebuild: function 15 -/
def impl_Rebuild.f (k : Nat) (a0 : Int) (l1 : List ByteArray) (l2 : List Bool) : Option (List ByteArray × Bool) := (impl_Decode.f k a0 l1 l2).bind fun bt405 => (if bt405.2 = true then ((impl_Encode.f k a0 bt405.1).bind fun bt409 => (some (bt409.1, bt409.2))) else (some (([] : List ByteArray), false)))
theorem impl_Rebuild.mono : ∀ a0 a1 a2 k, LeO (impl_Rebuild.f k a0 a1 a2) (impl_Rebuild.f (k + 1) a0 a1 a2) := by
 intro a0 a1 a2 k
 unfold impl_Rebuild.f
 repeat' first
   | (with_reducible exact LeO.refl _)
   | (with_reducible refine LeO.ite ?_ ?_)
   | (with_reducible refine LeO.bind ?_ (fun _ => ?_))
   | exact impl_Decode.mono _ _ _ _
   | exact impl_Encode.mono _ _ _
   | exact LeO.none _
   | refine LeO.ite ?_ ?_
   | refine LeO.bind ?_ (fun _ => ?_)
set_option maxHeartbeats 8000000 in
set_option maxRecDepth 100000 in
theorem impl_Rebuild.calls (k : Nat) (a0 : Int) (A1 : Option Addr) (c1 : Nat) (l1 : List ByteArray) (A2 : Option Addr) (c2 : Nat) (l2 : List Bool) (r1 : List ByteArray) (r2 : Bool) (w : World) (hr1 : Kd.C Kd.string w A1 l1.length l1) (hc1 : l1.length ≤ c1) (hr2 : Kd.C Kd.bool w A2 l2.length l2) (hc2 : l2.length ≤ c2) (h : impl_Rebuild.f k a0 l1 l2 = some (r1, r2)) :
  Calls Try.prog 15 #[.int .i64 a0, .slice A1 l1.length c1, .slice A2 l2.length c2] w fun e w' => ∃ v0_ : Value, e = .returned (.tuple #[v0_, .bool r2]) ∧ Kd.R Kd.string 9 w' w.heap.size (fun _ => True) v0_ r1 ∧ Below w.heap.size w w' := by
 have HR1 := Aside0.mk hr1
 have HC1 := Aside0.mk hc1
 clear hr1 hc1
 have HR2 := Aside0.mk hr2
 have HC2 := Aside0.mk hc2
 clear hr2 hc2
 have HB := Aside0.mk (Below.refl w.heap.size w)
 have H : ((impl_Decode.f k a0 l1 l2).bind fun bt405 => (if bt405.2 = true then ((impl_Encode.f k a0 bt405.1).bind fun bt409 => (some (bt409.1, bt409.2))) else (some (([] : List ByteArray), false)))) = some (r1, r2) := h
 clear h
 replace H := Option.bind_eq_some_iff.mp H
 obtain ⟨⟨t405, t406⟩, A40, H⟩ := H
 replace H : (if t406 = true then ((impl_Encode.f k a0 t405).bind fun bt409 => (some (bt409.1, bt409.2))) else (some (([] : List ByteArray), false))) = some (r1, r2) := H
 have A4 := Aside0.mk A40
 clear A40
 by_cases c5 : t406 = true
 ·subst c5
  have H1 : ((impl_Encode.f k a0 t405).bind fun bt409 => (some (bt409.1, bt409.2))) = some (r1, r2) := by rw [if_pos rfl] at H; exact H
  clear H
  have H := H1
  clear H1
  replace H := Option.bind_eq_some_iff.mp H
  obtain ⟨⟨t409, t410⟩, A60, H⟩ := H
  replace H : (some (t409, t410)) = some (r1, r2) := H
  have A6 := Aside0.mk A60
  clear A60
  simp only [Option.some.injEq, Prod.mk.injEq] at H
  obtain ⟨rfl, rfl⟩ := H
  go_enter Try.func15, Try.ntmps15
  go_wp2_with (first | ((with_reducible refine gate_callee (f := 14) rfl ?_); refine goesL_ (some 14) rfl rfl Try.func14 (by kernel_rfl) rfl #[.int .i64 a0, .slice A1 l1.length c1, .slice A2 l2.length c2] rfl (by (try simp only [List.map_toArray, List.map_cons, List.map_nil]); first | done | rfl) ?_; (with_reducible refine (impl_Decode.calls k a0 _ _ l1 _ _ l2 t405 true _ ?side1 ?side2 ?side3 ?side4 A4.out).mono ?_); (case side1 => repeat (first | exact HR1.out | (with_reducible refine Kd.C_alloc ?_ _) | (with_reducible refine Kd.C_drewN ?_ _) | (with_reducible refine Kd.C_drew ?_))); (case side2 => exact HC1.out); (case side3 => repeat (first | exact HR2.out | (with_reducible refine Kd.C_alloc ?_ _) | (with_reducible refine Kd.C_drewN ?_ _) | (with_reducible refine Kd.C_drew ?_))); (case side4 => exact HC2.out); rintro e w7 ⟨v407, rfl, ho0, hb⟩; refine ⟨_, rfl, ?_⟩; have n0_ := Aside0.mk (Kd.R_lower ho0 (below_size (by repeat (first | exact HB.out | apply below_alloc | apply pw_below_drewN | apply below_drew1)))); have n1_ := Aside0.mk (below_step (by repeat (first | exact HB.out | apply below_alloc | apply pw_below_drewN | apply below_drew1)) hb); clear HB; have HO408 := n0_; have HB := n1_; clear n0_ n1_; (try clear hb); (try clear ho0); obtain ⟨Ao8, co8, eo8⟩ := Kd.R_slice HO408.out; subst eo8) | ((with_reducible refine gate_callee (f := 10) rfl ?_); refine goesL_ (some 21) rfl rfl Try.func10 (by kernel_rfl) rfl #[.int .i64 a0, .slice Ao8 t405.length co8] rfl (by (try simp only [List.map_toArray, List.map_cons, List.map_nil]); first | done | rfl) ?_; (with_reducible refine (impl_Encode.calls k a0 _ _ t405 t409 t410 _ ?side1 ?side2 A6.out).mono ?_); (case side1 => repeat (first | exact (Kd.R_reads' HO408.out).2.2 | (with_reducible refine Kd.C_alloc ?_ _) | (with_reducible refine Kd.C_drewN ?_ _) | (with_reducible refine Kd.C_drew ?_))); (case side2 => exact (Kd.R_reads' HO408.out).2.1); rintro e w9 ⟨v411, rfl, ho0, hb⟩; refine ⟨_, rfl, ?_⟩; have n0_ := Aside0.mk (Kd.R_elder' (by exact HO408.out) (Kd.R_base ho0) hb); have n1_ := Aside0.mk (Kd.R_lower (Kd.R_new' ho0 (Kd.R_lt (by exact HO408.out))) (below_size (by repeat (first | exact HB.out | apply below_alloc | apply pw_below_drewN | apply below_drew1)))); have n2_ := Aside0.mk (below_step (by repeat (first | exact HB.out | apply below_alloc | apply pw_below_drewN | apply below_drew1)) hb); clear HO408; clear HB; have HO408 := n0_; have HO412 := n1_; have HB := n2_; clear n0_ n1_ n2_; (try clear hb); (try clear hk); (try clear ho0)))
  go_ret2
  exact ⟨_, by first | rfl | (simp [errW_none, errW_some] <;> rfl) | (simp [*, errW_none, errW_some] <;> rfl), by exact Kd.R_mono HO412.out (fun _ hk => trivial), by repeat (first | exact HB.out | apply below_alloc | apply pw_below_drewN | apply below_drew1)⟩
 ·replace c5 := Bool.eq_false_iff.mpr c5
  subst c5
  have H1 : (some (([] : List ByteArray), false)) = some (r1, r2) := by rw [if_neg (show ¬ (false = true) by decide)] at H; exact H
  clear H
  have H := H1
  clear H1
  simp only [Option.some.injEq, Prod.mk.injEq] at H
  obtain ⟨rfl, rfl⟩ := H
  go_enter Try.func15, Try.ntmps15
  go_wp2_with (first | ((with_reducible refine gate_callee (f := 14) rfl ?_); refine goesL_ (some 14) rfl rfl Try.func14 (by kernel_rfl) rfl #[.int .i64 a0, .slice A1 l1.length c1, .slice A2 l2.length c2] rfl (by (try simp only [List.map_toArray, List.map_cons, List.map_nil]); first | done | rfl) ?_; (with_reducible refine (impl_Decode.calls k a0 _ _ l1 _ _ l2 t405 false _ ?side1 ?side2 ?side3 ?side4 A4.out).mono ?_); (case side1 => repeat (first | exact HR1.out | (with_reducible refine Kd.C_alloc ?_ _) | (with_reducible refine Kd.C_drewN ?_ _) | (with_reducible refine Kd.C_drew ?_))); (case side2 => exact HC1.out); (case side3 => repeat (first | exact HR2.out | (with_reducible refine Kd.C_alloc ?_ _) | (with_reducible refine Kd.C_drewN ?_ _) | (with_reducible refine Kd.C_drew ?_))); (case side4 => exact HC2.out); rintro e w10 ⟨v407, rfl, ho0, hb⟩; refine ⟨_, rfl, ?_⟩; have n0_ := Aside0.mk (Kd.R_lower ho0 (below_size (by repeat (first | exact HB.out | apply below_alloc | apply pw_below_drewN | apply below_drew1)))); have n1_ := Aside0.mk (below_step (by repeat (first | exact HB.out | apply below_alloc | apply pw_below_drewN | apply below_drew1)) hb); clear HB; have HO408 := n0_; have HB := n1_; clear n0_ n1_; (try clear hb); (try clear ho0)))
  go_ret2
  exact ⟨_, by first | rfl | (simp [errW_none, errW_some] <;> rfl) | (simp [*, errW_none, errW_some] <;> rfl), by first | exact Kd.R_nil _ _ _ _ _ | exact Kd.N_nil _ _ _ _ _ | exact Kd.V_nil _ _ _ _ _ | exact Kd.Q_nil _ _ _ _ _ | exact Kd.S_nil _ _ _ _ _, by repeat (first | exact HB.out | apply below_alloc | apply pw_below_drewN | apply below_drew1)⟩

/-! ### laws_FnCodes: function 3 -/
mutual
def laws_FnCodes.j0 : Nat → List Int → Int → List ByteArray → Int → Int → List ByteArray → Bool → Option (Bool)
 | 0, _, _, _, _, _, _, _ => none
 | k + 1, x0, x3, x4, x5, x6, x8, x76 => if x76 = true then (some false) else ((spec_DrawPlaces.f k x0).bind fun t435 => (if 0 ≤ (wrap64 (x5 + x6)) then (if (wrap64 (x5 + x6) : Int).toNat ≤ 281474976710656 then (laws_FnCodes.l0 k x3 x4 x5 x6 x8 t435 (List.replicate (wrap64 (x5 + x6) : Int).toNat false) 0) else (none)) else (none)))
def laws_FnCodes.l0 : Nat → Int → List ByteArray → Int → Int → List ByteArray → List Int → List Bool → Int → Option (Bool)
 | 0, _, _, _, _, _, _, _, _ => none
 | k + 1, x3, x4, x5, x6, x8, x12, x13, x14 => if x14 < (wrap64 (x5 + x6)) then (if 0 ≤ x14 then (if x14 < (x13.length : Int) then (laws_FnCodes.l0 k x3 x4 x5 x6 x8 x12 (x13.set (x14 : Int).toNat true) (wrap64 (x14 + 1))) else (none)) else (none)) else ((some (([] : List ByteArray) : List ByteArray)).bind fun y442 => (if y442.length + x8.length < 8796093022208 then (laws_FnCodes.l1 k x3 x4 x5 x6 x8 x12 x13 (y442 ++ x8) 0) else (none)))
def laws_FnCodes.l1 : Nat → Int → List ByteArray → Int → Int → List ByteArray → List Int → List Bool → List ByteArray → Int → Option (Bool)
 | 0, _, _, _, _, _, _, _, _, _ => none
 | k + 1, x3, x4, x5, x6, x8, x12, x13, x15, x16 => if x16 < x6 then (if 0 ≤ x16 then (if x16 < (x12.length : Int) then (if (wrap64 (x5 + x6)) = 0 then (none) else (if 0 ≤ (Int.tmod (rd x12 x16) (wrap64 (x5 + x6))) then (if (Int.tmod (rd x12 x16) (wrap64 (x5 + x6))) < (x13.length : Int) then (if (Int.tmod (rd x12 x16) (wrap64 (x5 + x6))) < (x15.length : Int) then (laws_FnCodes.l1 k x3 x4 x5 x6 x8 x12 (x13.set ((Int.tmod (rd x12 x16) (wrap64 (x5 + x6))) : Int).toNat false) (x15.set ((Int.tmod (rd x12 x16) (wrap64 (x5 + x6))) : Int).toNat (⟨#[103, 111, 110, 101]⟩ : ByteArray)) (wrap64 (x16 + 1))) else (none)) else (none)) else (none))) else (none)) else (none)) else ((impl_Decode.f k x3 x15 x13).bind fun bt452 => ((impl_Rebuild.f k x3 x15 x13).bind fun bt456 => (if bt452.2 = true then (if bt456.2 = true then ((laws_sameTexts.f k bt452.1 x4).bind fun t460 => (if t460 = true then ((laws_sameTexts.f k bt456.1 x8).bind fun t461 => (laws_FnCodes.j3 k x3 x5 x6 x12 x13 x15 (!t461))) else (laws_FnCodes.j3 k x3 x5 x6 x12 x13 x15 true))) else (laws_FnCodes.j3 k x3 x5 x6 x12 x13 x15 true)) else (laws_FnCodes.j3 k x3 x5 x6 x12 x13 x15 true))))
def laws_FnCodes.j3 : Nat → Int → Int → Int → List Int → List Bool → List ByteArray → Bool → Option (Bool)
 | 0, _, _, _, _, _, _, _ => none
 | k + 1, x3, x5, x6, x12, x13, x15, x152 => if x152 = true then (some false) else (laws_FnCodes.l2 k x3 x5 x6 x12 x13 x15 0)
def laws_FnCodes.l2 : Nat → Int → Int → Int → List Int → List Bool → List ByteArray → Int → Option (Bool)
 | 0, _, _, _, _, _, _, _ => none
 | k + 1, x3, x5, x6, x12, x13, x15, x21 => if x21 ≤ x6 then (if 4 < (x12.length : Int) then (if (wrap64 (x5 + x6)) = 0 then (none) else (if 0 ≤ (Int.tmod (wrap64 ((rd x12 4) + x21)) (wrap64 (x5 + x6))) then (if (Int.tmod (wrap64 ((rd x12 4) + x21)) (wrap64 (x5 + x6))) < (x13.length : Int) then (laws_FnCodes.l2 k x3 x5 x6 x12 (x13.set ((Int.tmod (wrap64 ((rd x12 4) + x21)) (wrap64 (x5 + x6))) : Int).toNat false) x15 (wrap64 (x21 + 1))) else (none)) else (none))) else (none)) else ((impl_Decode.f k x3 x15 x13).bind fun bt464 => (some (!bt464.2)))
end
def laws_FnCodes.f (k : Nat) (l0 : List Int) : Option (Bool) := (laws_big.f l0).bind fun t413 => (if t413 = true then (some true) else ((spec_DrawUnits.f k l0).bind fun bt414 => ((impl_SchemaOf.f bt414.1).bind fun bt418 => ((impl_Encode.f k bt414.1 bt414.2).bind fun bt421 => ((spec_Encode.f k bt414.1 bt414.2).bind fun bt425 => (if bt418.2.2 = true then (if bt421.2 = true then (if (bt421.1.length : Int) = (wrap64 (bt418.1 + bt418.2.1)) then ((laws_sameTexts.f k bt421.1 bt425.1).bind fun t429 => (if t429 = true then (if 0 ≤ bt418.1 then (if bt418.1 ≤ (bt421.1.length : Int) then ((laws_sameTexts.f k (bt421.1.take (bt418.1 : Int).toNat) bt414.2).bind fun t434 => (laws_FnCodes.j0 k l0 bt414.1 bt414.2 bt418.1 bt418.2.1 bt421.1 (!t434))) else (none)) else (none)) else (laws_FnCodes.j0 k l0 bt414.1 bt414.2 bt418.1 bt418.2.1 bt421.1 true))) else (laws_FnCodes.j0 k l0 bt414.1 bt414.2 bt418.1 bt418.2.1 bt421.1 true)) else (laws_FnCodes.j0 k l0 bt414.1 bt414.2 bt418.1 bt418.2.1 bt421.1 true)) else (laws_FnCodes.j0 k l0 bt414.1 bt414.2 bt418.1 bt418.2.1 bt421.1 true)))))))
theorem laws_FnCodes.mono_l : ∀ k, (∀ y0 y1 y2 y3 y4 y5 y6, LeO (laws_FnCodes.j0 k y0 y1 y2 y3 y4 y5 y6) (laws_FnCodes.j0 (k + 1) y0 y1 y2 y3 y4 y5 y6)) ∧ (∀ y0 y1 y2 y3 y4 y5 y6 y7, LeO (laws_FnCodes.l0 k y0 y1 y2 y3 y4 y5 y6 y7) (laws_FnCodes.l0 (k + 1) y0 y1 y2 y3 y4 y5 y6 y7)) ∧ (∀ y0 y1 y2 y3 y4 y5 y6 y7 y8, LeO (laws_FnCodes.l1 k y0 y1 y2 y3 y4 y5 y6 y7 y8) (laws_FnCodes.l1 (k + 1) y0 y1 y2 y3 y4 y5 y6 y7 y8)) ∧ (∀ y0 y1 y2 y3 y4 y5 y6, LeO (laws_FnCodes.j3 k y0 y1 y2 y3 y4 y5 y6) (laws_FnCodes.j3 (k + 1) y0 y1 y2 y3 y4 y5 y6)) ∧ (∀ y0 y1 y2 y3 y4 y5 y6, LeO (laws_FnCodes.l2 k y0 y1 y2 y3 y4 y5 y6) (laws_FnCodes.l2 (k + 1) y0 y1 y2 y3 y4 y5 y6))
 | 0 => ⟨fun _ _ _ _ _ _ _ r h => by simp [laws_FnCodes.j0] at h, fun _ _ _ _ _ _ _ _ r h => by simp [laws_FnCodes.l0] at h, fun _ _ _ _ _ _ _ _ _ r h => by simp [laws_FnCodes.l1] at h, fun _ _ _ _ _ _ _ r h => by simp [laws_FnCodes.j3] at h, fun _ _ _ _ _ _ _ r h => by simp [laws_FnCodes.l2] at h⟩
 | k + 1 => by
  obtain ⟨ih0, ih1, ih2, ih3, ih4⟩ := laws_FnCodes.mono_l k
  refine ⟨?_, ?_, ?_, ?_, ?_⟩
  ·intro y0 y1 y2 y3 y4 y5 y6
   unfold laws_FnCodes.j0
   repeat' first
   | (with_reducible exact ih0 _ _ _ _ _ _ _)
   | (with_reducible exact ih1 _ _ _ _ _ _ _ _)
   | (with_reducible exact ih2 _ _ _ _ _ _ _ _ _)
   | (with_reducible exact ih3 _ _ _ _ _ _ _)
   | (with_reducible exact ih4 _ _ _ _ _ _ _)
   | (with_reducible exact impl_Decode.mono _ _ _ _)
   | (with_reducible exact impl_Encode.mono _ _ _)
   | (with_reducible exact impl_Rebuild.mono _ _ _ _)
   | (with_reducible exact laws_sameTexts.mono _ _ _)
   | (with_reducible exact spec_DrawPlaces.mono _ _)
   | (with_reducible exact spec_DrawUnits.mono _ _)
   | (with_reducible exact spec_Encode.mono _ _ _)
   | (with_reducible exact LeO.refl _)
   | (with_reducible refine LeO.ite ?_ ?_)
   | (with_reducible refine LeO.bind ?_ (fun _ => ?_))
   | exact ih0 _ _ _ _ _ _ _
   | exact ih1 _ _ _ _ _ _ _ _
   | exact ih2 _ _ _ _ _ _ _ _ _
   | exact ih3 _ _ _ _ _ _ _
   | exact ih4 _ _ _ _ _ _ _
   | exact impl_Decode.mono _ _ _ _
   | exact impl_Encode.mono _ _ _
   | exact impl_Rebuild.mono _ _ _ _
   | exact laws_sameTexts.mono _ _ _
   | exact spec_DrawPlaces.mono _ _
   | exact spec_DrawUnits.mono _ _
   | exact spec_Encode.mono _ _ _
   | exact LeO.none _
   | refine LeO.ite ?_ ?_
   | refine LeO.bind ?_ (fun _ => ?_)
  ·intro y0 y1 y2 y3 y4 y5 y6 y7
   unfold laws_FnCodes.l0
   repeat' first
   | (with_reducible exact ih0 _ _ _ _ _ _ _)
   | (with_reducible exact ih1 _ _ _ _ _ _ _ _)
   | (with_reducible exact ih2 _ _ _ _ _ _ _ _ _)
   | (with_reducible exact ih3 _ _ _ _ _ _ _)
   | (with_reducible exact ih4 _ _ _ _ _ _ _)
   | (with_reducible exact impl_Decode.mono _ _ _ _)
   | (with_reducible exact impl_Encode.mono _ _ _)
   | (with_reducible exact impl_Rebuild.mono _ _ _ _)
   | (with_reducible exact laws_sameTexts.mono _ _ _)
   | (with_reducible exact spec_DrawPlaces.mono _ _)
   | (with_reducible exact spec_DrawUnits.mono _ _)
   | (with_reducible exact spec_Encode.mono _ _ _)
   | (with_reducible exact LeO.refl _)
   | (with_reducible refine LeO.ite ?_ ?_)
   | (with_reducible refine LeO.bind ?_ (fun _ => ?_))
   | exact ih0 _ _ _ _ _ _ _
   | exact ih1 _ _ _ _ _ _ _ _
   | exact ih2 _ _ _ _ _ _ _ _ _
   | exact ih3 _ _ _ _ _ _ _
   | exact ih4 _ _ _ _ _ _ _
   | exact impl_Decode.mono _ _ _ _
   | exact impl_Encode.mono _ _ _
   | exact impl_Rebuild.mono _ _ _ _
   | exact laws_sameTexts.mono _ _ _
   | exact spec_DrawPlaces.mono _ _
   | exact spec_DrawUnits.mono _ _
   | exact spec_Encode.mono _ _ _
   | exact LeO.none _
   | refine LeO.ite ?_ ?_
   | refine LeO.bind ?_ (fun _ => ?_)
  ·intro y0 y1 y2 y3 y4 y5 y6 y7 y8
   unfold laws_FnCodes.l1
   repeat' first
   | (with_reducible exact ih0 _ _ _ _ _ _ _)
   | (with_reducible exact ih1 _ _ _ _ _ _ _ _)
   | (with_reducible exact ih2 _ _ _ _ _ _ _ _ _)
   | (with_reducible exact ih3 _ _ _ _ _ _ _)
   | (with_reducible exact ih4 _ _ _ _ _ _ _)
   | (with_reducible exact impl_Decode.mono _ _ _ _)
   | (with_reducible exact impl_Encode.mono _ _ _)
   | (with_reducible exact impl_Rebuild.mono _ _ _ _)
   | (with_reducible exact laws_sameTexts.mono _ _ _)
   | (with_reducible exact spec_DrawPlaces.mono _ _)
   | (with_reducible exact spec_DrawUnits.mono _ _)
   | (with_reducible exact spec_Encode.mono _ _ _)
   | (with_reducible exact LeO.refl _)
   | (with_reducible refine LeO.ite ?_ ?_)
   | (with_reducible refine LeO.bind ?_ (fun _ => ?_))
   | exact ih0 _ _ _ _ _ _ _
   | exact ih1 _ _ _ _ _ _ _ _
   | exact ih2 _ _ _ _ _ _ _ _ _
   | exact ih3 _ _ _ _ _ _ _
   | exact ih4 _ _ _ _ _ _ _
   | exact impl_Decode.mono _ _ _ _
   | exact impl_Encode.mono _ _ _
   | exact impl_Rebuild.mono _ _ _ _
   | exact laws_sameTexts.mono _ _ _
   | exact spec_DrawPlaces.mono _ _
   | exact spec_DrawUnits.mono _ _
   | exact spec_Encode.mono _ _ _
   | exact LeO.none _
   | refine LeO.ite ?_ ?_
   | refine LeO.bind ?_ (fun _ => ?_)
  ·intro y0 y1 y2 y3 y4 y5 y6
   unfold laws_FnCodes.j3
   repeat' first
   | (with_reducible exact ih0 _ _ _ _ _ _ _)
   | (with_reducible exact ih1 _ _ _ _ _ _ _ _)
   | (with_reducible exact ih2 _ _ _ _ _ _ _ _ _)
   | (with_reducible exact ih3 _ _ _ _ _ _ _)
   | (with_reducible exact ih4 _ _ _ _ _ _ _)
   | (with_reducible exact impl_Decode.mono _ _ _ _)
   | (with_reducible exact impl_Encode.mono _ _ _)
   | (with_reducible exact impl_Rebuild.mono _ _ _ _)
   | (with_reducible exact laws_sameTexts.mono _ _ _)
   | (with_reducible exact spec_DrawPlaces.mono _ _)
   | (with_reducible exact spec_DrawUnits.mono _ _)
   | (with_reducible exact spec_Encode.mono _ _ _)
   | (with_reducible exact LeO.refl _)
   | (with_reducible refine LeO.ite ?_ ?_)
   | (with_reducible refine LeO.bind ?_ (fun _ => ?_))
   | exact ih0 _ _ _ _ _ _ _
   | exact ih1 _ _ _ _ _ _ _ _
   | exact ih2 _ _ _ _ _ _ _ _ _
   | exact ih3 _ _ _ _ _ _ _
   | exact ih4 _ _ _ _ _ _ _
   | exact impl_Decode.mono _ _ _ _
   | exact impl_Encode.mono _ _ _
   | exact impl_Rebuild.mono _ _ _ _
   | exact laws_sameTexts.mono _ _ _
   | exact spec_DrawPlaces.mono _ _
   | exact spec_DrawUnits.mono _ _
   | exact spec_Encode.mono _ _ _
   | exact LeO.none _
   | refine LeO.ite ?_ ?_
   | refine LeO.bind ?_ (fun _ => ?_)
  ·intro y0 y1 y2 y3 y4 y5 y6
   unfold laws_FnCodes.l2
   repeat' first
   | (with_reducible exact ih0 _ _ _ _ _ _ _)
   | (with_reducible exact ih1 _ _ _ _ _ _ _ _)
   | (with_reducible exact ih2 _ _ _ _ _ _ _ _ _)
   | (with_reducible exact ih3 _ _ _ _ _ _ _)
   | (with_reducible exact ih4 _ _ _ _ _ _ _)
   | (with_reducible exact impl_Decode.mono _ _ _ _)
   | (with_reducible exact impl_Encode.mono _ _ _)
   | (with_reducible exact impl_Rebuild.mono _ _ _ _)
   | (with_reducible exact laws_sameTexts.mono _ _ _)
   | (with_reducible exact spec_DrawPlaces.mono _ _)
   | (with_reducible exact spec_DrawUnits.mono _ _)
   | (with_reducible exact spec_Encode.mono _ _ _)
   | (with_reducible exact LeO.refl _)
   | (with_reducible refine LeO.ite ?_ ?_)
   | (with_reducible refine LeO.bind ?_ (fun _ => ?_))
   | exact ih0 _ _ _ _ _ _ _
   | exact ih1 _ _ _ _ _ _ _ _
   | exact ih2 _ _ _ _ _ _ _ _ _
   | exact ih3 _ _ _ _ _ _ _
   | exact ih4 _ _ _ _ _ _ _
   | exact impl_Decode.mono _ _ _ _
   | exact impl_Encode.mono _ _ _
   | exact impl_Rebuild.mono _ _ _ _
   | exact laws_sameTexts.mono _ _ _
   | exact spec_DrawPlaces.mono _ _
   | exact spec_DrawUnits.mono _ _
   | exact spec_Encode.mono _ _ _
   | exact LeO.none _
   | refine LeO.ite ?_ ?_
   | refine LeO.bind ?_ (fun _ => ?_)
theorem laws_FnCodes.mono : ∀ a0 k, LeO (laws_FnCodes.f k a0) (laws_FnCodes.f (k + 1) a0) := by
 intro a0 k
 obtain ⟨ih0, ih1, ih2, ih3, ih4⟩ := laws_FnCodes.mono_l k
 unfold laws_FnCodes.f
 repeat' first
   | (with_reducible exact ih0 _ _ _ _ _ _ _)
   | (with_reducible exact ih1 _ _ _ _ _ _ _ _)
   | (with_reducible exact ih2 _ _ _ _ _ _ _ _ _)
   | (with_reducible exact ih3 _ _ _ _ _ _ _)
   | (with_reducible exact ih4 _ _ _ _ _ _ _)
   | (with_reducible exact impl_Decode.mono _ _ _ _)
   | (with_reducible exact impl_Encode.mono _ _ _)
   | (with_reducible exact impl_Rebuild.mono _ _ _ _)
   | (with_reducible exact laws_sameTexts.mono _ _ _)
   | (with_reducible exact spec_DrawPlaces.mono _ _)
   | (with_reducible exact spec_DrawUnits.mono _ _)
   | (with_reducible exact spec_Encode.mono _ _ _)
   | (with_reducible exact LeO.refl _)
   | (with_reducible refine LeO.ite ?_ ?_)
   | (with_reducible refine LeO.bind ?_ (fun _ => ?_))
   | exact ih0 _ _ _ _ _ _ _
   | exact ih1 _ _ _ _ _ _ _ _
   | exact ih2 _ _ _ _ _ _ _ _ _
   | exact ih3 _ _ _ _ _ _ _
   | exact ih4 _ _ _ _ _ _ _
   | exact impl_Decode.mono _ _ _ _
   | exact impl_Encode.mono _ _ _
   | exact impl_Rebuild.mono _ _ _ _
   | exact laws_sameTexts.mono _ _ _
   | exact spec_DrawPlaces.mono _ _
   | exact spec_DrawUnits.mono _ _
   | exact spec_Encode.mono _ _ _
   | exact LeO.none _
   | refine LeO.ite ?_ ?_
   | refine LeO.bind ?_ (fun _ => ?_)
set_option maxHeartbeats 8000000 in
set_option maxRecDepth 100000 in
theorem laws_FnCodes.calls (k : Nat) (A0 : Option Addr) (c0 : Nat) (l0 : List Int) (r : Bool) (w : World) (hr0 : Kd.C (Kd.int .u8) w A0 l0.length l0) (hc0 : l0.length ≤ c0) (h : laws_FnCodes.f k l0 = some r) :
  Calls Try.prog 3 #[.slice A0 l0.length c0] w fun e w' => e = .returned (.bool r) ∧ Below w.heap.size w w' := by
 have HR0 := Aside0.mk hr0
 have HC0 := Aside0.mk hc0
 clear hr0 hc0
 have HB := Aside0.mk (Below.refl w.heap.size w)
 have H : ((laws_big.f l0).bind fun t413 => (if t413 = true then (some true) else ((spec_DrawUnits.f k l0).bind fun bt414 => ((impl_SchemaOf.f bt414.1).bind fun bt418 => ((impl_Encode.f k bt414.1 bt414.2).bind fun bt421 => ((spec_Encode.f k bt414.1 bt414.2).bind fun bt425 => (if bt418.2.2 = true then (if bt421.2 = true then (if (bt421.1.length : Int) = (wrap64 (bt418.1 + bt418.2.1)) then ((laws_sameTexts.f k bt421.1 bt425.1).bind fun t429 => (if t429 = true then (if 0 ≤ bt418.1 then (if bt418.1 ≤ (bt421.1.length : Int) then ((laws_sameTexts.f k (bt421.1.take (bt418.1 : Int).toNat) bt414.2).bind fun t434 => (laws_FnCodes.j0 k l0 bt414.1 bt414.2 bt418.1 bt418.2.1 bt421.1 (!t434))) else (none)) else (none)) else (laws_FnCodes.j0 k l0 bt414.1 bt414.2 bt418.1 bt418.2.1 bt421.1 true))) else (laws_FnCodes.j0 k l0 bt414.1 bt414.2 bt418.1 bt418.2.1 bt421.1 true)) else (laws_FnCodes.j0 k l0 bt414.1 bt414.2 bt418.1 bt418.2.1 bt421.1 true)) else (laws_FnCodes.j0 k l0 bt414.1 bt414.2 bt418.1 bt418.2.1 bt421.1 true)))))))) = some r := h
 clear h
 replace H := Option.bind_eq_some_iff.mp H
 obtain ⟨t413, A20, H⟩ := H
 replace H : (if t413 = true then (some true) else ((spec_DrawUnits.f k l0).bind fun bt414 => ((impl_SchemaOf.f bt414.1).bind fun bt418 => ((impl_Encode.f k bt414.1 bt414.2).bind fun bt421 => ((spec_Encode.f k bt414.1 bt414.2).bind fun bt425 => (if bt418.2.2 = true then (if bt421.2 = true then (if (bt421.1.length : Int) = (wrap64 (bt418.1 + bt418.2.1)) then ((laws_sameTexts.f k bt421.1 bt425.1).bind fun t429 => (if t429 = true then (if 0 ≤ bt418.1 then (if bt418.1 ≤ (bt421.1.length : Int) then ((laws_sameTexts.f k (bt421.1.take (bt418.1 : Int).toNat) bt414.2).bind fun t434 => (laws_FnCodes.j0 k l0 bt414.1 bt414.2 bt418.1 bt418.2.1 bt421.1 (!t434))) else (none)) else (none)) else (laws_FnCodes.j0 k l0 bt414.1 bt414.2 bt418.1 bt418.2.1 bt421.1 true))) else (laws_FnCodes.j0 k l0 bt414.1 bt414.2 bt418.1 bt418.2.1 bt421.1 true)) else (laws_FnCodes.j0 k l0 bt414.1 bt414.2 bt418.1 bt418.2.1 bt421.1 true)) else (laws_FnCodes.j0 k l0 bt414.1 bt414.2 bt418.1 bt418.2.1 bt421.1 true))))))) = some r := H
 have A2 := Aside0.mk A20
 clear A20
 by_cases c3 : t413 = true
 ·subst c3
  have H1 : (some true) = some r := by rw [if_pos rfl] at H; exact H
  clear H
  have H := H1
  clear H1
  obtain rfl := Option.some.inj H
  go_enter Try.func3, Try.ntmps3
  go_wp2_with (first | ((with_reducible refine gate_callee (f := 7) rfl ?_); refine goesL_ (some 25) rfl rfl Try.func7 (by kernel_rfl) rfl #[.slice A0 l0.length c0] rfl (by (try simp only [List.map_toArray, List.map_cons, List.map_nil]); first | done | rfl) ?_; (with_reducible refine (laws_big.calls _ _ l0 true _ ?side1 ?side2 A2.out).mono ?_); (case side1 => repeat (first | exact HR0.out | (with_reducible refine Kd.C_alloc ?_ _) | (with_reducible refine Kd.C_drewN ?_ _) | (with_reducible refine Kd.C_drew ?_))); (case side2 => exact HC0.out); rintro e w' ⟨rfl, ⟨nd, rfl⟩⟩; refine ⟨_, rfl, ?_⟩))
  go_ret
  exact ⟨by first | rfl | (simp [errW_none, errW_some] <;> rfl) | (simp [*, errW_none, errW_some] <;> rfl), by repeat (first | exact HB.out | apply below_alloc | apply pw_below_drewN | apply below_drew1)⟩
 ·replace c3 := Bool.eq_false_iff.mpr c3
  subst c3
  have H1 : ((spec_DrawUnits.f k l0).bind fun bt414 => ((impl_SchemaOf.f bt414.1).bind fun bt418 => ((impl_Encode.f k bt414.1 bt414.2).bind fun bt421 => ((spec_Encode.f k bt414.1 bt414.2).bind fun bt425 => (if bt418.2.2 = true then (if bt421.2 = true then (if (bt421.1.length : Int) = (wrap64 (bt418.1 + bt418.2.1)) then ((laws_sameTexts.f k bt421.1 bt425.1).bind fun t429 => (if t429 = true then (if 0 ≤ bt418.1 then (if bt418.1 ≤ (bt421.1.length : Int) then ((laws_sameTexts.f k (bt421.1.take (bt418.1 : Int).toNat) bt414.2).bind fun t434 => (laws_FnCodes.j0 k l0 bt414.1 bt414.2 bt418.1 bt418.2.1 bt421.1 (!t434))) else (none)) else (none)) else (laws_FnCodes.j0 k l0 bt414.1 bt414.2 bt418.1 bt418.2.1 bt421.1 true))) else (laws_FnCodes.j0 k l0 bt414.1 bt414.2 bt418.1 bt418.2.1 bt421.1 true)) else (laws_FnCodes.j0 k l0 bt414.1 bt414.2 bt418.1 bt418.2.1 bt421.1 true)) else (laws_FnCodes.j0 k l0 bt414.1 bt414.2 bt418.1 bt418.2.1 bt421.1 true)))))) = some r := by rw [if_neg (show ¬ (false = true) by decide)] at H; exact H
  clear H
  have H := H1
  clear H1
  replace H := Option.bind_eq_some_iff.mp H
  obtain ⟨⟨t414, t415⟩, A40, H⟩ := H
  replace H : ((impl_SchemaOf.f t414).bind fun bt418 => ((impl_Encode.f k t414 t415).bind fun bt421 => ((spec_Encode.f k t414 t415).bind fun bt425 => (if bt418.2.2 = true then (if bt421.2 = true then (if (bt421.1.length : Int) = (wrap64 (bt418.1 + bt418.2.1)) then ((laws_sameTexts.f k bt421.1 bt425.1).bind fun t429 => (if t429 = true then (if 0 ≤ bt418.1 then (if bt418.1 ≤ (bt421.1.length : Int) then ((laws_sameTexts.f k (bt421.1.take (bt418.1 : Int).toNat) t415).bind fun t434 => (laws_FnCodes.j0 k l0 t414 t415 bt418.1 bt418.2.1 bt421.1 (!t434))) else (none)) else (none)) else (laws_FnCodes.j0 k l0 t414 t415 bt418.1 bt418.2.1 bt421.1 true))) else (laws_FnCodes.j0 k l0 t414 t415 bt418.1 bt418.2.1 bt421.1 true)) else (laws_FnCodes.j0 k l0 t414 t415 bt418.1 bt418.2.1 bt421.1 true)) else (laws_FnCodes.j0 k l0 t414 t415 bt418.1 bt418.2.1 bt421.1 true))))) = some r := H
  have A4 := Aside0.mk A40
  clear A40
  replace H := Option.bind_eq_some_iff.mp H
  obtain ⟨⟨t418, t419, t420⟩, A50, H⟩ := H
  replace H : ((impl_Encode.f k t414 t415).bind fun bt421 => ((spec_Encode.f k t414 t415).bind fun bt425 => (if t420 = true then (if bt421.2 = true then (if (bt421.1.length : Int) = (wrap64 (t418 + t419)) then ((laws_sameTexts.f k bt421.1 bt425.1).bind fun t429 => (if t429 = true then (if 0 ≤ t418 then (if t418 ≤ (bt421.1.length : Int) then ((laws_sameTexts.f k (bt421.1.take (t418 : Int).toNat) t415).bind fun t434 => (laws_FnCodes.j0 k l0 t414 t415 t418 t419 bt421.1 (!t434))) else (none)) else (none)) else (laws_FnCodes.j0 k l0 t414 t415 t418 t419 bt421.1 true))) else (laws_FnCodes.j0 k l0 t414 t415 t418 t419 bt421.1 true)) else (laws_FnCodes.j0 k l0 t414 t415 t418 t419 bt421.1 true)) else (laws_FnCodes.j0 k l0 t414 t415 t418 t419 bt421.1 true)))) = some r := H
  have A5 := Aside0.mk A50
  clear A50
  replace H := Option.bind_eq_some_iff.mp H
  obtain ⟨⟨t421, t422⟩, A60, H⟩ := H
  replace H : ((spec_Encode.f k t414 t415).bind fun bt425 => (if t420 = true then (if t422 = true then (if (t421.length : Int) = (wrap64 (t418 + t419)) then ((laws_sameTexts.f k t421 bt425.1).bind fun t429 => (if t429 = true then (if 0 ≤ t418 then (if t418 ≤ (t421.length : Int) then ((laws_sameTexts.f k (t421.take (t418 : Int).toNat) t415).bind fun t434 => (laws_FnCodes.j0 k l0 t414 t415 t418 t419 t421 (!t434))) else (none)) else (none)) else (laws_FnCodes.j0 k l0 t414 t415 t418 t419 t421 true))) else (laws_FnCodes.j0 k l0 t414 t415 t418 t419 t421 true)) else (laws_FnCodes.j0 k l0 t414 t415 t418 t419 t421 true)) else (laws_FnCodes.j0 k l0 t414 t415 t418 t419 t421 true))) = some r := H
  have A6 := Aside0.mk A60
  clear A60
  replace H := Option.bind_eq_some_iff.mp H
  obtain ⟨⟨t425, t426⟩, A70, H⟩ := H
  replace H : (if t420 = true then (if t422 = true then (if (t421.length : Int) = (wrap64 (t418 + t419)) then ((laws_sameTexts.f k t421 t425).bind fun t429 => (if t429 = true then (if 0 ≤ t418 then (if t418 ≤ (t421.length : Int) then ((laws_sameTexts.f k (t421.take (t418 : Int).toNat) t415).bind fun t434 => (laws_FnCodes.j0 k l0 t414 t415 t418 t419 t421 (!t434))) else (none)) else (none)) else (laws_FnCodes.j0 k l0 t414 t415 t418 t419 t421 true))) else (laws_FnCodes.j0 k l0 t414 t415 t418 t419 t421 true)) else (laws_FnCodes.j0 k l0 t414 t415 t418 t419 t421 true)) else (laws_FnCodes.j0 k l0 t414 t415 t418 t419 t421 true)) = some r := H
  have A7 := Aside0.mk A70
  clear A70
  have HC8 := Aside0.mk H
  clear H
  go_enter Try.func3, Try.ntmps3
  go_upto_region 7 with (first | ((with_reducible refine gate_callee (f := 7) rfl ?_); refine goesL_ (some 25) rfl rfl Try.func7 (by kernel_rfl) rfl #[.slice A0 l0.length c0] rfl (by (try simp only [List.map_toArray, List.map_cons, List.map_nil]); first | done | rfl) ?_; (with_reducible refine (laws_big.calls _ _ l0 false _ ?side1 ?side2 A2.out).mono ?_); (case side1 => repeat (first | exact HR0.out | (with_reducible refine Kd.C_alloc ?_ _) | (with_reducible refine Kd.C_drewN ?_ _) | (with_reducible refine Kd.C_drew ?_))); (case side2 => exact HC0.out); rintro e w' ⟨rfl, ⟨nd, rfl⟩⟩; refine ⟨_, rfl, ?_⟩) | ((with_reducible refine gate_callee (f := 8) rfl ?_); refine goesL_ (some 28) rfl rfl Try.func8 (by kernel_rfl) rfl #[.slice A0 l0.length c0] rfl (by (try simp only [List.map_toArray, List.map_cons, List.map_nil]); first | done | rfl) ?_; (with_reducible refine (spec_DrawUnits.calls k _ _ l0 t414 t415 _ ?side1 ?side2 A4.out).mono ?_); (case side1 => repeat (first | exact HR0.out | (with_reducible refine Kd.C_alloc ?_ _) | (with_reducible refine Kd.C_drewN ?_ _) | (with_reducible refine Kd.C_drew ?_))); (case side2 => exact HC0.out); rintro e w9 ⟨v416, rfl, ho0, hb⟩; refine ⟨_, rfl, ?_⟩; have n0_ := Aside0.mk (Kd.R_lower ho0 (below_size (by repeat (first | exact HB.out | apply below_alloc | apply pw_below_drewN | apply below_drew1)))); have n1_ := Aside0.mk (below_step (by repeat (first | exact HB.out | apply below_alloc | apply pw_below_drewN | apply below_drew1)) hb); clear HB; have HO417 := n0_; have HB := n1_; clear n0_ n1_; (try clear hb); (try clear ho0)) | ((with_reducible refine gate_callee (f := 9) rfl ?_); refine goesL_ (some 33) rfl rfl Try.func9 (by kernel_rfl) rfl #[.int .i64 t414] rfl (by (try simp only [List.map_toArray, List.map_cons, List.map_nil]); first | done | rfl) ?_; (with_reducible refine (impl_SchemaOf.calls t414 t418 t419 t420 _ A5.out).mono ?_); rintro e w' ⟨rfl, ⟨nd, rfl⟩⟩; refine ⟨_, rfl, ?_⟩; obtain ⟨Ao10, co10, eo10⟩ := Kd.R_slice HO417.out; subst eo10) | ((with_reducible refine gate_callee (f := 10) rfl ?_); refine goesL_ (some 40) rfl rfl Try.func10 (by kernel_rfl) rfl #[.int .i64 t414, .slice Ao10 t415.length co10] rfl (by (try simp only [List.map_toArray, List.map_cons, List.map_nil]); first | done | rfl) ?_; (with_reducible refine (impl_Encode.calls k t414 _ _ t415 t421 t422 _ ?side1 ?side2 A6.out).mono ?_); (case side1 => repeat (first | exact (Kd.R_reads' HO417.out).2.2 | (with_reducible refine Kd.C_alloc ?_ _) | (with_reducible refine Kd.C_drewN ?_ _) | (with_reducible refine Kd.C_drew ?_))); (case side2 => exact (Kd.R_reads' HO417.out).2.1); rintro e w11 ⟨v423, rfl, ho0, hb⟩; refine ⟨_, rfl, ?_⟩; have n0_ := Aside0.mk (Kd.R_elder' (by exact HO417.out) (Kd.R_base ho0) hb); have n1_ := Aside0.mk (Kd.R_lower (Kd.R_new' ho0 (Kd.R_lt (by exact HO417.out))) (below_size (by repeat (first | exact HB.out | apply below_alloc | apply pw_below_drewN | apply below_drew1)))); have n2_ := Aside0.mk (below_step (by repeat (first | exact HB.out | apply below_alloc | apply pw_below_drewN | apply below_drew1)) hb); clear HO417; clear HB; have HO417 := n0_; have HO424 := n1_; have HB := n2_; clear n0_ n1_ n2_; (try clear hb); (try clear ho0)) | ((with_reducible refine gate_callee (f := 11) rfl ?_); refine goesL_ (some 46) rfl rfl Try.func11 (by kernel_rfl) rfl #[.int .i64 t414, .slice Ao10 t415.length co10] rfl (by (try simp only [List.map_toArray, List.map_cons, List.map_nil]); first | done | rfl) ?_; (with_reducible refine (spec_Encode.calls k t414 _ _ t415 t425 t426 _ ?side1 ?side2 A7.out).mono ?_); (case side1 => repeat (first | exact (Kd.R_reads' HO417.out).2.2 | (with_reducible refine Kd.C_alloc ?_ _) | (with_reducible refine Kd.C_drewN ?_ _) | (with_reducible refine Kd.C_drew ?_))); (case side2 => exact (Kd.R_reads' HO417.out).2.1); rintro e w12 ⟨v427, rfl, ho0, hb⟩; refine ⟨_, rfl, ?_⟩; have n0_ := Aside0.mk (Kd.R_elder' (by exact HO417.out) (Kd.R_base ho0) hb); have n1_ := Aside0.mk (Kd.R_elder' (by exact HO424.out) (Kd.R_base ho0) hb); have n2_ := Aside0.mk (Kd.R_lower (Kd.R_new' (Kd.R_new' ho0 (Kd.R_lt (by exact HO417.out))) (Kd.R_lt (by exact HO424.out))) (below_size (by repeat (first | exact HB.out | apply below_alloc | apply pw_below_drewN | apply below_drew1)))); have n3_ := Aside0.mk (below_step (by repeat (first | exact HB.out | apply below_alloc | apply pw_below_drewN | apply below_drew1)) hb); clear HO417; clear HO424; clear HB; have HO417 := n0_; have HO424 := n1_; have HO428 := n2_; have HB := n3_; clear n0_ n1_ n2_ n3_; (try clear hb); (try clear ho0)))
  (try simp only [Act.put, List.setIfInBounds_toArray, List.set_cons_zero, List.set_cons_succ])
  go_cut [76] (fun v76 wc => ∃ (kq : Nat) (x76_7 : Bool), v76 = .bool x76_7 ∧ Aside0 (laws_FnCodes.j0 kq l0 t414 t415 t418 t419 t421 x76_7 = some r) ∧ Aside0 (kq ≤ k) ∧ Aside0 (Kd.R Kd.string 9 wc w.heap.size (fun k_ => some k_ ≠ (v423 : Value).ownBlock) (.slice Ao10 t415.length co10) t415) ∧ Aside0 (Kd.R Kd.string 9 wc w.heap.size (fun k_ => some k_ ≠ ((.slice Ao10 t415.length co10) : Value).ownBlock) v423 t421) ∧ Aside0 (Below w.heap.size w wc))
  case first =>
   have H := HC8.out
   clear HC8
   by_cases c13 : t420 = true
   ·subst c13
    have H1 : (if t422 = true then (if (t421.length : Int) = (wrap64 (t418 + t419)) then ((laws_sameTexts.f k t421 t425).bind fun t429 => (if t429 = true then (if 0 ≤ t418 then (if t418 ≤ (t421.length : Int) then ((laws_sameTexts.f k (t421.take (t418 : Int).toNat) t415).bind fun t434 => (laws_FnCodes.j0 k l0 t414 t415 t418 t419 t421 (!t434))) else (none)) else (none)) else (laws_FnCodes.j0 k l0 t414 t415 t418 t419 t421 true))) else (laws_FnCodes.j0 k l0 t414 t415 t418 t419 t421 true)) else (laws_FnCodes.j0 k l0 t414 t415 t418 t419 t421 true)) = some r := by rw [if_pos rfl] at H; exact H
    clear H
    have H := H1
    clear H1
    by_cases c14 : t422 = true
    ·subst c14
     have H1 : (if (t421.length : Int) = (wrap64 (t418 + t419)) then ((laws_sameTexts.f k t421 t425).bind fun t429 => (if t429 = true then (if 0 ≤ t418 then (if t418 ≤ (t421.length : Int) then ((laws_sameTexts.f k (t421.take (t418 : Int).toNat) t415).bind fun t434 => (laws_FnCodes.j0 k l0 t414 t415 t418 t419 t421 (!t434))) else (none)) else (none)) else (laws_FnCodes.j0 k l0 t414 t415 t418 t419 t421 true))) else (laws_FnCodes.j0 k l0 t414 t415 t418 t419 t421 true)) = some r := by rw [if_pos rfl] at H; exact H
     clear H
     have H := H1
     clear H1
     by_cases c15 : (t421.length : Int) = (wrap64 (t418 + t419))
     ·rw [if_pos c15] at H
      have c15b0 : ((t421.length : Int) == (wrap64 (t418 + t419))) = true := beq_iff_eq.mpr c15
      try (have c15b7 := c15b0; rw [hji29] at c15b7)
      have c15b1 : ((t421.length : Int) != (wrap64 (t418 + t419))) = false := bne_eq_false_iff_eq.mpr c15
      clear c15
      (first | rw [c15b0] | (simp only [i64_w, i32_w]; rw [c15b0]) | rw [c15b1] | skip)
      replace H := Option.bind_eq_some_iff.mp H
      obtain ⟨t429, A160, H⟩ := H
      replace H : (if t429 = true then (if 0 ≤ t418 then (if t418 ≤ (t421.length : Int) then ((laws_sameTexts.f k (t421.take (t418 : Int).toNat) t415).bind fun t434 => (laws_FnCodes.j0 k l0 t414 t415 t418 t419 t421 (!t434))) else (none)) else (none)) else (laws_FnCodes.j0 k l0 t414 t415 t418 t419 t421 true)) = some r := H
      have A16 := Aside0.mk A160
      clear A160
      by_cases c17 : t429 = true
      ·subst c17
       have H1 : (if 0 ≤ t418 then (if t418 ≤ (t421.length : Int) then ((laws_sameTexts.f k (t421.take (t418 : Int).toNat) t415).bind fun t434 => (laws_FnCodes.j0 k l0 t414 t415 t418 t419 t421 (!t434))) else (none)) else (none)) = some r := by rw [if_pos rfl] at H; exact H
       clear H
       have H := H1
       clear H1
       by_cases c18 : 0 ≤ t418
       ·rw [if_pos c18] at H
        have c18b0 := eq_true c18
        have c18b1 : decide (0 ≤ t418) = true := decide_eq_true c18
        clear c18
        by_cases c19 : t418 ≤ (t421.length : Int)
        ·rw [if_pos c19] at H
         have c19b0 := eq_true c19
         have c19b1 : decide (t418 ≤ (t421.length : Int)) = true := decide_eq_true c19
         clear c19
         obtain ⟨y430, hy430⟩ : ∃ y_ : List ByteArray, y_ = (t421.take (t418 : Int).toNat) := ⟨_, rfl⟩
         replace H : ((laws_sameTexts.f k y430 t415).bind fun t434 => (laws_FnCodes.j0 k l0 t414 t415 t418 t419 t421 (!t434))) = some r := by first | (rw [hy430]; with_reducible exact H) | (have H2_ := (Option.bind_some _ _).symm.trans H; rw [hy430]; with_reducible exact H2_) | (have H2_ := (Option.bind_some _ _).symm.trans H; with_reducible exact H2_) | with_reducible exact H | (rw [hy430]; exact H) | exact H
         have Ny430 := Aside0.mk hy430
         clear hy430
         replace H := Option.bind_eq_some_iff.mp H
         obtain ⟨t434, A200, H⟩ := H
         replace H : (laws_FnCodes.j0 k l0 t414 t415 t418 t419 t421 (!t434)) = some r := H
         have A20 := Aside0.mk A200
         clear A200
         have H' := Aside0.mk H
         clear H
         obtain ⟨Ao21, co21, eo21⟩ := Kd.R_slice HO424.out
         subst eo21
         obtain ⟨Ao22, co22, eo22⟩ := Kd.R_slice HO428.out
         subst eo22
         go_wp2_with (first | (go_at_call 12; (with_reducible refine (laws_sameTexts.calls k _ _ t421 _ _ t425 true _ ?side1 ?side2 ?side3 ?side4 A16.out).mono ?_); (case side1 => repeat (first | exact (Kd.R_reads' HO424.out).2.2 | (with_reducible refine Kd.C_alloc ?_ _) | (with_reducible refine Kd.C_drewN ?_ _) | (with_reducible refine Kd.C_drew ?_))); (case side2 => exact (Kd.R_reads' HO424.out).2.1); (case side3 => repeat (first | exact (Kd.R_reads' HO428.out).2.2 | (with_reducible refine Kd.C_alloc ?_ _) | (with_reducible refine Kd.C_drewN ?_ _) | (with_reducible refine Kd.C_drew ?_))); (case side4 => exact (Kd.R_reads' HO428.out).2.1); rintro e w' ⟨rfl, ⟨nd, rfl⟩⟩; have q23 : (t418 : Int) ≤ ((t421.length : Int) : Int) := of_decide_eq_true (by assumption); obtain ⟨i023, hi023, _, hsz23, _⟩ := info_parts info9; have hroom23 : t421.length ≤ co21 := (Kd.R_reads' HO424.out).2.1; have hC23 : Kd.C Kd.string _ Ao21 t421.length t421 := (Kd.R_reads' HO424.out).2.2; have hcut23 := cut_to (P := Try.prog) 24 9 .i64 Try.underlying24 hi023 Ao21 t421.length co21 t418 (of_decide_eq_true (by assumption)) q23 hroom23; have hr23 := Kd.C_take (m := (t418 : Int).toNat) hC23 (by omega); have hy23 : y430.length = (t418 : Int).toNat := (by rw [Ny430.out, List.length_take]; omega); rw [← Ny430.out] at hr23; rw [← hy23] at hcut23; have HR433 := Aside0.mk hr23; have HC433 := Aside0.mk (show y430.length ≤ co21 from by omega); clear hr23 hC23 hroom23 hi023 hsz23; have KY23 := Aside0.mk hy23; clear hy23; have KL23 := Aside0.mk (show (t418 : Int).toNat ≤ t421.length from by omega); replace q23 := eq_true q23) | (go_at_call 12; (with_reducible refine (laws_sameTexts.calls k _ _ y430 _ _ t415 t434 _ ?side1 ?side2 ?side3 ?side4 A20.out).mono ?_); (case side1 => repeat (first | exact (by repeat (first | (with_reducible exact HR433.out) | (with_reducible refine Kd.C_alloc ?_ _) | (with_reducible refine Kd.C_drewN ?_ _) | (with_reducible refine Kd.C_drew ?_) | exact HR433.out)) | (with_reducible refine Kd.C_alloc ?_ _) | (with_reducible refine Kd.C_drewN ?_ _) | (with_reducible refine Kd.C_drew ?_))); (case side2 => exact HC433.out); (case side3 => repeat (first | exact (Kd.R_reads' HO417.out).2.2 | (with_reducible refine Kd.C_alloc ?_ _) | (with_reducible refine Kd.C_drewN ?_ _) | (with_reducible refine Kd.C_drew ?_))); (case side4 => exact (Kd.R_reads' HO417.out).2.1); rintro e w' ⟨rfl, ⟨nd, rfl⟩⟩))
         go_meet
         case rel => exact ⟨_, (!t434), (by first | rfl | (simp; done) | (simp [*]; done)), H', ⟨by first | omega | exact Nat.le_refl _⟩, ⟨by exact Kd.R_mono HO417.out (fun _ hk => hk.1.2)⟩, ⟨by exact Kd.R_mono HO424.out (fun _ hk => hk.1.2)⟩, ⟨by repeat (first | exact HB.out | apply below_alloc | apply pw_below_drewN | apply below_drew1)⟩⟩
        ·rw [if_neg c19] at H
         exact absurd H (by simp)
       ·rw [if_neg c18] at H
        exact absurd H (by simp)
      ·replace c17 := Bool.eq_false_iff.mpr c17
       subst c17
       have H1 : (laws_FnCodes.j0 k l0 t414 t415 t418 t419 t421 true) = some r := by rw [if_neg (show ¬ (false = true) by decide)] at H; exact H
       clear H
       have H := H1
       clear H1
       have H' := Aside0.mk H
       clear H
       obtain ⟨Ao24, co24, eo24⟩ := Kd.R_slice HO424.out
       subst eo24
       obtain ⟨Ao25, co25, eo25⟩ := Kd.R_slice HO428.out
       subst eo25
       go_wp2_with (first | (go_at_call 12; (with_reducible refine (laws_sameTexts.calls k _ _ t421 _ _ t425 false _ ?side1 ?side2 ?side3 ?side4 A16.out).mono ?_); (case side1 => repeat (first | exact (Kd.R_reads' HO424.out).2.2 | (with_reducible refine Kd.C_alloc ?_ _) | (with_reducible refine Kd.C_drewN ?_ _) | (with_reducible refine Kd.C_drew ?_))); (case side2 => exact (Kd.R_reads' HO424.out).2.1); (case side3 => repeat (first | exact (Kd.R_reads' HO428.out).2.2 | (with_reducible refine Kd.C_alloc ?_ _) | (with_reducible refine Kd.C_drewN ?_ _) | (with_reducible refine Kd.C_drew ?_))); (case side4 => exact (Kd.R_reads' HO428.out).2.1); rintro e w' ⟨rfl, ⟨nd, rfl⟩⟩))
       go_meet
       case rel => exact ⟨_, (true), (by first | rfl | (simp; done) | (simp [*]; done)), H', ⟨by first | omega | exact Nat.le_refl _⟩, ⟨by exact Kd.R_mono HO417.out (fun _ hk => hk.1.2)⟩, ⟨by exact Kd.R_mono HO424.out (fun _ hk => hk.1.2)⟩, ⟨by repeat (first | exact HB.out | apply below_alloc | apply pw_below_drewN | apply below_drew1)⟩⟩
     ·rw [if_neg c15] at H
      have c15b0 : ((t421.length : Int) == (wrap64 (t418 + t419))) = false := beq_eq_false_iff_ne.mpr c15
      try (have c15b7 := c15b0; rw [hji29] at c15b7)
      have c15b1 : ((t421.length : Int) != (wrap64 (t418 + t419))) = true := bne_iff_ne.mpr c15
      (first | rw [c15b0] | (simp only [i64_w, i32_w]; rw [c15b0]) | rw [c15b1] | skip)
      have H' := Aside0.mk H
      clear H
      obtain ⟨Ao26, co26, eo26⟩ := Kd.R_slice HO424.out
      subst eo26
      go_wp2
      go_meet
      case rel => exact ⟨_, (true), (by first | rfl | (simp; done) | (simp [*]; done)), H', ⟨by first | omega | exact Nat.le_refl _⟩, ⟨by exact Kd.R_mono HO417.out (fun _ hk => hk.1.2)⟩, ⟨by exact Kd.R_mono HO424.out (fun _ hk => hk.1.2)⟩, ⟨by repeat (first | exact HB.out | apply below_alloc | apply pw_below_drewN | apply below_drew1)⟩⟩
    ·replace c14 := Bool.eq_false_iff.mpr c14
     subst c14
     have H1 : (laws_FnCodes.j0 k l0 t414 t415 t418 t419 t421 true) = some r := by rw [if_neg (show ¬ (false = true) by decide)] at H; exact H
     clear H
     have H := H1
     clear H1
     have H' := Aside0.mk H
     clear H
     go_wp2
     go_meet
     case rel => exact ⟨_, (true), (by first | rfl | (simp; done) | (simp [*]; done)), H', ⟨by first | omega | exact Nat.le_refl _⟩, ⟨by exact Kd.R_mono HO417.out (fun _ hk => hk.1.2)⟩, ⟨by exact Kd.R_mono HO424.out (fun _ hk => hk.1.2)⟩, ⟨by repeat (first | exact HB.out | apply below_alloc | apply pw_below_drewN | apply below_drew1)⟩⟩
   ·replace c13 := Bool.eq_false_iff.mpr c13
    subst c13
    have H1 : (laws_FnCodes.j0 k l0 t414 t415 t418 t419 t421 true) = some r := by rw [if_neg (show ¬ (false = true) by decide)] at H; exact H
    clear H
    have H := H1
    clear H1
    have H' := Aside0.mk H
    clear H
    go_wp2
    go_meet
    case rel => exact ⟨_, (true), (by first | rfl | (simp; done) | (simp [*]; done)), H', ⟨by first | omega | exact Nat.le_refl _⟩, ⟨by exact Kd.R_mono HO417.out (fun _ hk => hk.1.2)⟩, ⟨by exact Kd.R_mono HO424.out (fun _ hk => hk.1.2)⟩, ⟨by repeat (first | exact HB.out | apply below_alloc | apply pw_below_drewN | apply below_drew1)⟩⟩
  case rest =>
   clear HC8
   obtain ⟨kq, x76_7, rfl, HA, HJ7, HO_4, HO_8, HB⟩ := hcut
   cases kq with
   | zero => exact absurd HA.out (by simp [laws_FnCodes.j0])
   | succ kj7 =>
    have H := HA.out
    clear HA
    simp only [laws_FnCodes.j0] at H
    by_cases c27 : x76_7 = true
    ·subst c27
     have H1 : (some false) = some r := by rw [if_pos rfl] at H; exact H
     clear H
     have H := H1
     clear H1
     obtain rfl := Option.some.inj H
     go_wp2
     go_ret
     exact ⟨by first | rfl | (simp [errW_none, errW_some] <;> rfl) | (simp [*, errW_none, errW_some] <;> rfl), by repeat (first | exact HB.out | apply below_alloc | apply pw_below_drewN | apply below_drew1)⟩
    ·replace c27 := Bool.eq_false_iff.mpr c27
     subst c27
     have H1 : ((spec_DrawPlaces.f kj7 l0).bind fun t435 => (if 0 ≤ (wrap64 (t418 + t419)) then (if (wrap64 (t418 + t419) : Int).toNat ≤ 281474976710656 then (laws_FnCodes.l0 kj7 t414 t415 t418 t419 t421 t435 (List.replicate (wrap64 (t418 + t419) : Int).toNat false) 0) else (none)) else (none))) = some r := by rw [if_neg (show ¬ (false = true) by decide)] at H; exact H
     clear H
     have H := H1
     clear H1
     replace H := Option.bind_eq_some_iff.mp H
     obtain ⟨t435, A280, H⟩ := H
     replace H : (if 0 ≤ (wrap64 (t418 + t419)) then (if (wrap64 (t418 + t419) : Int).toNat ≤ 281474976710656 then (laws_FnCodes.l0 kj7 t414 t415 t418 t419 t421 t435 (List.replicate (wrap64 (t418 + t419) : Int).toNat false) 0) else (none)) else (none)) = some r := H
     have A28 := Aside0.mk A280
     clear A280
     obtain ⟨ji29, hji29⟩ : ∃ j_ : Int, (wrap64 (t418 + t419)) = j_ := ⟨_, rfl⟩
     replace H : (if 0 ≤ (ji29) then (if (ji29 : Int).toNat ≤ 281474976710656 then (laws_FnCodes.l0 kj7 t414 t415 t418 t419 t421 t435 (List.replicate (ji29 : Int).toNat false) 0) else (none)) else (none)) = some r := by first | (rw [hji29] at H; exact H) | (simp only [hji29] at H ⊢; exact H)
     (try rw [hji29] at A28)
     have hji29w : (IntKind.i64.wrap (t418 + t419)) = ji29 := (i64_w _).trans hji29
     by_cases c30 : 0 ≤ (ji29)
     ·rw [if_pos c30] at H
      have c30b0 := eq_true c30
      have c30b1 : decide (0 ≤ (ji29)) = true := decide_eq_true c30
      clear c30
      by_cases c31 : (ji29 : Int).toNat ≤ 281474976710656
      ·rw [if_pos c31] at H
       have c31b0 := eq_true c31
       have c31b1 : decide ((ji29 : Int).toNat ≤ 281474976710656) = true := decide_eq_true c31
       clear c31
       obtain ⟨y438, hy438⟩ : ∃ y_ : List Bool, y_ = (List.replicate (ji29 : Int).toNat false) := ⟨_, rfl⟩
       replace H : (laws_FnCodes.l0 kj7 t414 t415 t418 t419 t421 t435 y438 0) = some r := by first | (rw [hy438]; with_reducible exact H) | (have H2_ := (Option.bind_some _ _).symm.trans H; rw [hy438]; with_reducible exact H2_) | (have H2_ := (Option.bind_some _ _).symm.trans H; with_reducible exact H2_) | with_reducible exact H | (rw [hy438]; exact H) | exact H
       have Ny438 := Aside0.mk hy438
       clear hy438
       have H' := Aside0.mk H
       clear H
       go_wp2_with (first | ((with_reducible refine gate_callee (f := 13) rfl ?_); refine goesL_ (some 78) rfl rfl Try.func13 (by kernel_rfl) rfl #[.slice A0 l0.length c0] rfl (by (try simp only [List.map_toArray, List.map_cons, List.map_nil]); first | done | rfl) ?_; (with_reducible refine (spec_DrawPlaces.calls kj7 _ _ l0 t435 _ ?side1 ?side2 A28.out).mono ?_); (case side1 => repeat (first | exact (Kd.C_below HR0.out HB.out) | (with_reducible refine Kd.C_alloc ?_ _) | (with_reducible refine Kd.C_drewN ?_ _) | (with_reducible refine Kd.C_drew ?_))); (case side2 => exact HC0.out); rintro e w32 ⟨v436, rfl, ho0, hb⟩; refine ⟨_, rfl, ?_⟩; have n0_ := Aside0.mk (Kd.R_below (by exact HO_4.out) hb); have n1_ := Aside0.mk (Kd.R_below (by exact HO_8.out) hb); have n2_ := Aside0.mk (Kd.R_lower ho0 (below_size (by repeat (first | exact HB.out | apply below_alloc | apply pw_below_drewN | apply below_drew1)))); have n3_ := Aside0.mk (below_step (by repeat (first | exact HB.out | apply below_alloc | apply pw_below_drewN | apply below_drew1)) hb); clear HO_4; clear HO_8; clear HB; have HO_4 := n0_; have HO_8 := n1_; have HO437 := n2_; have HB := n3_; clear n0_ n1_ n2_ n3_; (try clear hb); (try clear ho0)) | ((with_reducible refine gate_dst (N := 82) rfl ?_); (try (refine gate_guard (by rfl) ?_; dsimp only)); refine Kd.R_make Kd.bool _ 4 rfl (N := 82) rfl 34 _ _ rfl ji29 rfl rfl Try.underlying34 (.bool false) 1 info4 rfl (by decide) (by omega) false (ok := fun _ => True) (okp := fun _ => True) rfl (fun _ hk => hk) trivial (of_decide_eq_true (by assumption)) (Nat.le_trans (Nat.mul_le_mul_right _ (of_decide_eq_true (by assumption) : ji29.toNat ≤ 281474976710656)) (by omega)) (Below.refl _ _) (Nat.le_refl _) ?_; intro v439 w33 ho34 hb hg_ hnew_; clear hg_ hnew_; (first | rw [← Ny438.out] at ho34 | (simp only [Int.reduceToNat] at ho34; rw [← Ny438.out] at ho34)); have n0_ := Aside0.mk (Kd.R_below (by exact HO_4.out) hb); have n1_ := Aside0.mk (Kd.R_below (by exact HO_8.out) hb); have n2_ := Aside0.mk (Kd.R_below (by exact HO437.out) hb); have n3_ := Aside0.mk (Kd.R_lower ho34 (below_size (by repeat (first | exact HB.out | apply below_alloc | apply pw_below_drewN | apply below_drew1)))); have n4_ := Aside0.mk (below_step (by repeat (first | exact HB.out | apply below_alloc | apply pw_below_drewN | apply below_drew1)) hb); clear HO_4; clear HO_8; clear HO437; clear HB; have HO_4 := n0_; have HO_8 := n1_; have HO437 := n2_; have HO440 := n3_; have HB := n4_; clear n0_ n1_ n2_ n3_ n4_; clear hb ho34))
       go_loopg [14] kj7 (fun kq v14 w' => ∃ (x13_2 : List Bool) (x14_2 : Int), v14 = .int .i64 x14_2 ∧ Aside0 (laws_FnCodes.l0 kq t414 t415 t418 t419 t421 t435 x13_2 x14_2 = some r) ∧ Aside0 (kq ≤ kj7) ∧ Aside0 (Kd.R Kd.string 9 w' w.heap.size (fun k_ => some k_ ≠ (v423 : Value).ownBlock) (.slice Ao10 t415.length co10) t415) ∧ Aside0 (Kd.R Kd.string 9 w' w.heap.size (fun k_ => some k_ ≠ ((.slice Ao10 t415.length co10) : Value).ownBlock) v423 t421) ∧ Aside0 (Kd.R (Kd.int .i64) 3 w' w.heap.size (fun _ => True) v436 t435) ∧ Aside0 (Kd.R Kd.bool 4 w' w.heap.size (fun _ => True) v439 x13_2) ∧ Aside0 (Below w.heap.size w w'))
       case atStart => exact ⟨(y438), (0), (by first | rfl | (simp; done) | (simp [*]; done)), H', ⟨Nat.le_refl _⟩, ⟨by exact HO_4.out⟩, ⟨by exact HO_8.out⟩, ⟨by exact HO437.out⟩, ⟨by exact HO440.out⟩, ⟨by repeat (first | exact HB.out | apply below_alloc | apply pw_below_drewN | apply below_drew1)⟩⟩
       case round =>
        clear H'
        obtain ⟨x13_2, x14_2, rfl, HA, HK2, HO_4, HO_8, HO_12, HO_13, HB⟩ := hrel
        cases gk with
        | zero => exact absurd HA.out (by simp [laws_FnCodes.l0])
        | succ k2 =>
         have H := HA.out
         clear HA
         simp only [laws_FnCodes.l0] at H
         by_cases c35 : x14_2 < (wrap64 (t418 + t419))
         ·rw [if_pos c35] at H
          have c35b0 : decide (x14_2 < (wrap64 (t418 + t419))) = true := decide_eq_true c35
          try (have c35b7 := c35b0; rw [hji29] at c35b7)
          clear c35
          by_cases c36 : 0 ≤ x14_2
          ·rw [if_pos c36] at H
           have c36b0 : decide (0 ≤ x14_2) = true := decide_eq_true c36
           clear c36
           by_cases c37 : x14_2 < (x13_2.length : Int)
           ·rw [if_pos c37] at H
            have c37b0 : decide (x14_2 < (x13_2.length : Int)) = true := decide_eq_true c37
            clear c37
            obtain ⟨y441, hy441⟩ : ∃ y_ : List Bool, y_ = (x13_2.set (x14_2 : Int).toNat true) := ⟨_, rfl⟩
            replace H : (laws_FnCodes.l0 k2 t414 t415 t418 t419 t421 t435 y441 (wrap64 (x14_2 + 1))) = some r := by first | (rw [hy441]; with_reducible exact H) | (have H2_ := (Option.bind_some _ _).symm.trans H; rw [hy441]; with_reducible exact H2_) | (have H2_ := (Option.bind_some _ _).symm.trans H; with_reducible exact H2_) | with_reducible exact H | (rw [hy441]; exact H) | exact H
            have Ny441 := Aside0.mk hy441
            clear hy441
            have H' := Aside0.mk H
            clear H
            have p38 : 0 ≤ (x14_2 : Int) := of_decide_eq_true (by assumption)
            have q38 : (x14_2 : Int) < ((x13_2.length : Int) : Int) := of_decide_eq_true (by assumption)
            obtain ⟨go38, co38, eo38, gb38, gl38, cl38, HG38⟩ := Kd.R_form HO_13.out (by omega)
            (first | cases eo38 | (injection eo38 with ea_ en_ ec_; (first | subst ea_ | (injection ea_ with ea_; subst ea_)); subst ec_; clear en_))
            have GB38 := Aside0.mk gb38
            have GG38 := Aside0.mk HG38
            clear gb38 gl38 HG38
            obtain ⟨hx38_0, hf38_0⟩ := Kd.R_celln false HO_13.out (x14_2 : Int) p38 q38
            replace p38 := eq_true p38
            replace q38 := eq_true q38
            have HP39 := Kd.R_putg HO_13.out (x14_2 : Int) true
            go_wp2_with (first | ((with_reducible refine gate_store (t := 4) (p := 92) rfl ?_); refine store_event (t := 4) (p := 92) (v := ?vo_w40) (w1 := (wr.setCell ⟨go38, (x14_2 : Int).toNat, none⟩ (.bool true))) ?hg ?ho ?hn ?hr ?_; (case ho => rfl); (case hg => rfl); (case hn => rfl); (case hr => first | (go_simp; done) | (go_simp; rfl)); intro w40 hw; have hg : wr.grownBy w40 (some go38) := (by rw [hw]; exact HP39.2); have hp_ : Kd.R Kd.bool 4 w40 w.heap.size (fun _ => True) (.slice (some ⟨go38, 0, none⟩) x13_2.length co38) y441 := (by rw [hw, Ny441.out]; exact HP39.1); clear HP39; have n0_ := Aside0.mk (Kd.R_over' (v := (.slice (some ⟨go38, 0, none⟩) x13_2.length co38)) (by exact HO_4.out) (Kd.R_typed HO_13.out) (by decide) hg); have n1_ := Aside0.mk (Kd.R_over' (v := (.slice (some ⟨go38, 0, none⟩) x13_2.length co38)) (by exact HO_8.out) (Kd.R_typed HO_13.out) (by decide) hg); have n2_ := Aside0.mk (Kd.R_over' (v := (.slice (some ⟨go38, 0, none⟩) x13_2.length co38)) (by exact HO_12.out) (Kd.R_typed HO_13.out) (by decide) hg); have n3_ := Aside0.mk (hp_); have n4_ := Aside0.mk ((by rw [hw]; exact below_set (HB.out) GB38.out : Below w.heap.size w w40)); clear HO_4; clear HO_8; clear HO_12; clear HO_13; clear HB; have HO_4 := n0_; have HO_8 := n1_; have HO_12 := n2_; have HO_13 := n3_; have HB := n4_; clear n0_ n1_ n2_ n3_ n4_; clear hg hw hp_))
            go_roundg k2
            case measure => have := HJ7.out; have := HK2.out; omega
            case rel => exact ⟨(y441), (wrap64 (x14_2 + 1)), (by first | rfl | (simp; done) | (simp [*]; done)), H', ⟨by have := HJ7.out; have := HK2.out; omega⟩, ⟨by exact HO_4.out⟩, ⟨by exact HO_8.out⟩, ⟨by exact HO_12.out⟩, ⟨by exact HO_13.out⟩, ⟨by repeat (first | exact HB.out | apply below_alloc | apply pw_below_drewN | apply below_drew1)⟩⟩
           ·rw [if_neg c37] at H
            exact absurd H (by simp)
          ·rw [if_neg c36] at H
           exact absurd H (by simp)
         ·rw [if_neg c35] at H
          have c35b0 : decide (x14_2 < (wrap64 (t418 + t419))) = false := decide_eq_false c35
          try (have c35b7 := c35b0; rw [hji29] at c35b7)
          clear c35
          obtain ⟨y442, hy442⟩ : ∃ y_ : List ByteArray, y_ = (([] : List ByteArray)) := ⟨_, rfl⟩
          replace H : (if y442.length + t421.length < 8796093022208 then (laws_FnCodes.l1 k2 t414 t415 t418 t419 t421 t435 x13_2 (y442 ++ t421) 0) else (none)) = some r := by first | (rw [hy442]; with_reducible exact H) | (have H2_ := (Option.bind_some _ _).symm.trans H; rw [hy442]; with_reducible exact H2_) | (have H2_ := (Option.bind_some _ _).symm.trans H; with_reducible exact H2_) | with_reducible exact H | (rw [hy442]; exact H) | exact H
          have Ny442 := Aside0.mk hy442
          clear hy442
          by_cases c41 : y442.length + t421.length < 8796093022208
          ·rw [if_pos c41] at H
           have LMc41 := Aside0.mk c41
           clear c41
           obtain ⟨y445, hy445⟩ : ∃ y_ : List ByteArray, y_ = (y442 ++ t421) := ⟨_, rfl⟩
           replace H : (laws_FnCodes.l1 k2 t414 t415 t418 t419 t421 t435 x13_2 y445 0) = some r := by first | (rw [hy445]; with_reducible exact H) | (have H2_ := (Option.bind_some _ _).symm.trans H; rw [hy445]; with_reducible exact H2_) | (have H2_ := (Option.bind_some _ _).symm.trans H; with_reducible exact H2_) | with_reducible exact H | (rw [hy445]; exact H) | exact H
           have Ny445 := Aside0.mk hy445
           clear hy445
           have H' := Aside0.mk H
           clear H
           go_wp2_with (first | ((with_reducible refine gate_dst (N := 93) rfl ?_); (try (refine gate_guard (by rfl) ?_; dsimp only)); refine Kd.R_lit Kd.string _ 9 ?hg (N := 93) ?hd (xs := ([] : List ByteArray)) (inner := []) (ok := fun _ => True) (okp := fun _ => True) ?hr ?hp (fun _ hk => hk) trivial (Below.refl _ _) (Nat.le_refl _) (by simp) ?_; (case hd => rfl); (case hg => rfl); (case hr => first | (go_simp; done) | (go_simp; rfl)); (case hp => exact (Reps.none _ _)); intro v443 w42 ho43 hb hg_ hnew_; clear hg_ hnew_; (first | rw [← Ny442.out] at ho43 | (simp only [Int.reduceToNat] at ho43; rw [← Ny442.out] at ho43)); have n0_ := Aside0.mk (Kd.R_elder' (by exact HO_4.out) (Kd.R_base ho43) hb); have n1_ := Aside0.mk (Kd.R_elder' (by exact HO_8.out) (Kd.R_base ho43) hb); have n2_ := Aside0.mk (Kd.R_below (by exact HO_12.out) hb); have n3_ := Aside0.mk (Kd.R_below (by exact HO_13.out) hb); have n4_ := Aside0.mk (Kd.R_lower (Kd.R_new' (Kd.R_new' ho43 (Kd.R_lt (by exact HO_4.out))) (Kd.R_lt (by exact HO_8.out))) (below_size (by repeat (first | exact HB.out | apply below_alloc | apply pw_below_drewN | apply below_drew1)))); have n5_ := Aside0.mk (below_step (by repeat (first | exact HB.out | apply below_alloc | apply pw_below_drewN | apply below_drew1)) hb); clear HO_4; clear HO_8; clear HO_12; clear HO_13; clear HB; have HO_4 := n0_; have HO_8 := n1_; have HO_12 := n2_; have HO_13 := n3_; have HO444 := n4_; have HB := n5_; clear n0_ n1_ n2_ n3_ n4_ n5_; clear hb ho43; obtain ⟨Ao45, co45, eo45⟩ := Kd.R_slice HO_8.out; subst eo45) | ((with_reducible refine gate_builtin (b := .append) (xs := #[.tmp 93, .tmp 94]) rfl ?_); (try (refine gate_guard (by rfl) ?_; dsimp only)); at_builtin; refine Kd.R_append_rows Kd.string (w0 := w) w.heap.size rfl (.tmp 93) (.tmp 94) 24 9 (.string ⟨#[]⟩) 16 rfl Try.underlying24 info9 rfl (by decide) (by omega) v443 y442 t421 _ _ _ (fun k_ => some k_ ≠ (.slice Ao10 t415.length co10 : Value).ownBlock ∧ some k_ ≠ (.slice Ao45 t421.length co45 : Value).ownBlock) (fun _ => False) rfl rfl ?aO ?aR (fun _ _ h => h) (fun _ h => h.elim) ?aF ?aB ?aS ?aL ?_; (case aR => repeat (first | exact (Kd.R_reads' HO_8.out).2.2 | (with_reducible refine Kd.C_alloc ?_ _) | (with_reducible refine Kd.C_drewN ?_ _) | (with_reducible refine Kd.C_drew ?_))); (case aB => exact (by repeat (first | exact HB.out | apply below_alloc | apply pw_below_drewN | apply below_drew1))); (case aF => exact (fun k_ hk => ⟨Kd.fresh' (Kd.R_lt (by exact HO_4.out)) k_ hk, Kd.fresh' (Kd.R_lt (by exact HO_8.out)) k_ hk⟩)); (case aO => exact (by exact Kd.R_mono HO444.out (fun _ hk => ⟨hk.1.2, hk.2⟩))); (case aS => exact (below_size (by repeat (first | exact HB.out | apply below_alloc | apply pw_below_drewN | apply below_drew1)))); (case aL => have := LMc41.out; omega); intro v446 w44 ho hb hg hat; rw [← Ny445.out] at ho; have n0_ := Aside0.mk (Kd.R_after (ok := (fun k_ => some k_ ≠ (.slice Ao45 t421.length co45 : Value).ownBlock)) (by exact HO_4.out) hg hat); have n1_ := Aside0.mk (Kd.R_after (ok := (fun k_ => some k_ ≠ (.slice Ao10 t415.length co10 : Value).ownBlock)) (by exact HO_8.out) hg hat); have n2_ := Aside0.mk (Kd.R_over' (by exact HO_12.out) (Kd.R_typed (by exact HO444.out)) (by decide) hg); have n3_ := Aside0.mk (Kd.R_over' (by exact HO_13.out) (Kd.R_typed (by exact HO444.out)) (by decide) hg); have n4_ := Aside0.mk (hb); have n5_ := Aside0.mk (ho); clear HO_4; clear HO_8; clear HO_12; clear HO_13; clear HB; clear HO444; have HO_4 := n0_; have HO_8 := n1_; have HO_12 := n2_; have HO_13 := n3_; have HB := n4_; have HO447 := n5_; clear n0_ n1_ n2_ n3_ n4_ n5_; clear ho hb hg hat))
           go_loopg [16] k2 (fun kq v16 w' => ∃ (x13_3 : List Bool) (x15_3 : List ByteArray) (x16_3 : Int), v16 = .int .i64 x16_3 ∧ Aside0 (laws_FnCodes.l1 kq t414 t415 t418 t419 t421 t435 x13_3 x15_3 x16_3 = some r) ∧ Aside0 (kq ≤ k2) ∧ Aside0 (Kd.R Kd.string 9 w' w.heap.size (fun k_ => some k_ ≠ ((.slice Ao45 t421.length co45) : Value).ownBlock ∧ some k_ ≠ (v446 : Value).ownBlock) (.slice Ao10 t415.length co10) t415) ∧ Aside0 (Kd.R Kd.string 9 w' w.heap.size (fun k_ => some k_ ≠ ((.slice Ao10 t415.length co10) : Value).ownBlock ∧ some k_ ≠ (v446 : Value).ownBlock) (.slice Ao45 t421.length co45) t421) ∧ Aside0 (Kd.R (Kd.int .i64) 3 w' w.heap.size (fun _ => True) v436 t435) ∧ Aside0 (Kd.R Kd.bool 4 w' w.heap.size (fun _ => True) v439 x13_3) ∧ Aside0 (Kd.R Kd.string 9 w' w.heap.size (fun k_ => some k_ ≠ ((.slice Ao10 t415.length co10) : Value).ownBlock ∧ some k_ ≠ ((.slice Ao45 t421.length co45) : Value).ownBlock) v446 x15_3) ∧ Aside0 (Below w.heap.size w w'))
           case atStart => exact ⟨(x13_2), (y445), (0), (by first | rfl | (simp; done) | (simp [*]; done)), H', ⟨Nat.le_refl _⟩, ⟨by exact HO_4.out⟩, ⟨by exact HO_8.out⟩, ⟨by exact HO_12.out⟩, ⟨by exact HO_13.out⟩, ⟨by exact HO447.out⟩, ⟨by repeat (first | exact HB.out | apply below_alloc | apply pw_below_drewN | apply below_drew1)⟩⟩
           case round =>
            clear H'
            obtain ⟨x13_3, x15_3, x16_3, rfl, HA, HK3, HO_4, HO_8, HO_12, HO_13, HO_15, HB⟩ := hrel
            cases gk with
            | zero => exact absurd HA.out (by simp [laws_FnCodes.l1])
            | succ k3 =>
             have H := HA.out
             clear HA
             simp only [laws_FnCodes.l1] at H
             by_cases c46 : x16_3 < t419
             ·rw [if_pos c46] at H
              have c46b0 : decide (x16_3 < t419) = true := decide_eq_true c46
              clear c46
              by_cases c47 : 0 ≤ x16_3
              ·rw [if_pos c47] at H
               have c47b0 : decide (0 ≤ x16_3) = true := decide_eq_true c47
               clear c47
               by_cases c48 : x16_3 < (t435.length : Int)
               ·rw [if_pos c48] at H
                have c48b0 : decide (x16_3 < (t435.length : Int)) = true := decide_eq_true c48
                clear c48
                by_cases c49 : (wrap64 (t418 + t419)) = 0
                ·rw [if_pos c49] at H
                 exact absurd H (by simp)
                ·rw [if_neg c49] at H
                 have c49b0 : ((wrap64 (t418 + t419)) == 0) = false := beq_eq_false_iff_ne.mpr c49
                 try (have c49b7 := c49b0; rw [hji29] at c49b7)
                 have c49b1 : ((wrap64 (t418 + t419)) != 0) = true := bne_iff_ne.mpr c49
                 obtain ⟨ji50, hji50⟩ : ∃ j_ : Int, (Int.tmod (rd t435 x16_3) (wrap64 (t418 + t419))) = j_ := ⟨_, rfl⟩
                 try (have hji50x := hji50; rw [hji29] at hji50x)
                 replace H : (if 0 ≤ (ji50) then (if (ji50) < (x13_3.length : Int) then (if (ji50) < (x15_3.length : Int) then (laws_FnCodes.l1 k3 t414 t415 t418 t419 t421 t435 (x13_3.set ((ji50) : Int).toNat false) (x15_3.set ((ji50) : Int).toNat (⟨#[103, 111, 110, 101]⟩ : ByteArray)) (wrap64 (x16_3 + 1))) else (none)) else (none)) else (none)) = some r := by first | (rw [hji50] at H; exact H) | (simp only [hji50] at H ⊢; exact H)
                 by_cases c51 : 0 ≤ (ji50)
                 ·rw [if_pos c51] at H
                  have c51b0 : decide (0 ≤ (ji50)) = true := decide_eq_true c51
                  clear c51
                  by_cases c52 : (ji50) < (x13_3.length : Int)
                  ·rw [if_pos c52] at H
                   have c52b0 : decide ((ji50) < (x13_3.length : Int)) = true := decide_eq_true c52
                   clear c52
                   obtain ⟨y449, hy449⟩ : ∃ y_ : List Bool, y_ = (x13_3.set ((ji50) : Int).toNat false) := ⟨_, rfl⟩
                   replace H : (if (ji50) < (x15_3.length : Int) then (laws_FnCodes.l1 k3 t414 t415 t418 t419 t421 t435 y449 (x15_3.set ((ji50) : Int).toNat (⟨#[103, 111, 110, 101]⟩ : ByteArray)) (wrap64 (x16_3 + 1))) else (none)) = some r := by first | (rw [hy449]; with_reducible exact H) | (have H2_ := (Option.bind_some _ _).symm.trans H; rw [hy449]; with_reducible exact H2_) | (have H2_ := (Option.bind_some _ _).symm.trans H; with_reducible exact H2_) | with_reducible exact H | (rw [hy449]; exact H) | exact H
                   have Ny449 := Aside0.mk hy449
                   clear hy449
                   by_cases c54 : (ji50) < (x15_3.length : Int)
                   ·rw [if_pos c54] at H
                    have c54b0 : decide ((ji50) < (x15_3.length : Int)) = true := decide_eq_true c54
                    clear c54
                    obtain ⟨y451, hy451⟩ : ∃ y_ : List ByteArray, y_ = (x15_3.set ((ji50) : Int).toNat (⟨#[103, 111, 110, 101]⟩ : ByteArray)) := ⟨_, rfl⟩
                    replace H : (laws_FnCodes.l1 k3 t414 t415 t418 t419 t421 t435 y449 y451 (wrap64 (x16_3 + 1))) = some r := by first | (rw [hy451]; with_reducible exact H) | (have H2_ := (Option.bind_some _ _).symm.trans H; rw [hy451]; with_reducible exact H2_) | (have H2_ := (Option.bind_some _ _).symm.trans H; with_reducible exact H2_) | with_reducible exact H | (rw [hy451]; exact H) | exact H
                    have Ny451 := Aside0.mk hy451
                    clear hy451
                    have H' := Aside0.mk H
                    clear H
                    obtain ⟨Ao56, co56, eo56⟩ := Kd.R_slice HO_12.out
                    subst eo56
                    have p448 : 0 ≤ (x16_3 : Int) := of_decide_eq_true (by assumption)
                    have q448 : x16_3 < (t435.length : Int) := of_decide_eq_true (by assumption)
                    obtain ⟨ad448, e448, hx448_0⟩ := Kd.at_int (Kd.R_reads' HO_12.out).2.2 x16_3 p448 q448
                    cases e448
                    replace p448 := eq_true p448
                    replace q448 := eq_true q448
                    have p53 : 0 ≤ ((ji50) : Int) := of_decide_eq_true (by assumption)
                    have q53 : ((ji50) : Int) < ((x13_3.length : Int) : Int) := of_decide_eq_true (by assumption)
                    obtain ⟨go53, co53, eo53, gb53, gl53, cl53, HG53⟩ := Kd.R_form HO_13.out (by omega)
                    (first | cases eo53 | (injection eo53 with ea_ en_ ec_; (first | subst ea_ | (injection ea_ with ea_; subst ea_)); subst ec_; clear en_))
                    have GB53 := Aside0.mk gb53
                    have GG53 := Aside0.mk HG53
                    clear gb53 gl53 HG53
                    obtain ⟨hx53_0, hf53_0⟩ := Kd.R_celln false HO_13.out ((ji50) : Int) p53 q53
                    replace p53 := eq_true p53
                    replace q53 := eq_true q53
                    have HP57 := Kd.R_putg HO_13.out ((ji50) : Int) false
                    go_wp2_with (first | ((with_reducible refine gate_store (t := 4) (p := 110) rfl ?_); refine store_event (t := 4) (p := 110) (v := ?vo_w58) (w1 := (wr.setCell ⟨go53, ((ji50) : Int).toNat, none⟩ (.bool false))) ?hg ?ho ?hn ?hr ?_; (case ho => rfl); (case hg => rfl); (case hn => rfl); (case hr => first | (go_simp; done) | (go_simp; rfl)); intro w58 hw; have hg : wr.grownBy w58 (some go53) := (by rw [hw]; exact HP57.2); have hp_ : Kd.R Kd.bool 4 w58 w.heap.size (fun _ => True) (.slice (some ⟨go53, 0, none⟩) x13_3.length co53) y449 := (by rw [hw, Ny449.out]; exact HP57.1); clear HP57; have n0_ := Aside0.mk (Kd.R_over' (v := (.slice (some ⟨go53, 0, none⟩) x13_3.length co53)) (by exact HO_4.out) (Kd.R_typed HO_13.out) (by decide) hg); have n1_ := Aside0.mk (Kd.R_over' (v := (.slice (some ⟨go53, 0, none⟩) x13_3.length co53)) (by exact HO_8.out) (Kd.R_typed HO_13.out) (by decide) hg); have n2_ := Aside0.mk (Kd.R_over' (v := (.slice (some ⟨go53, 0, none⟩) x13_3.length co53)) (by exact HO_12.out) (Kd.R_typed HO_13.out) (by decide) hg); have n3_ := Aside0.mk (hp_); have n4_ := Aside0.mk (Kd.R_over' (v := (.slice (some ⟨go53, 0, none⟩) x13_3.length co53)) (by exact HO_15.out) (Kd.R_typed HO_13.out) (by decide) hg); have n5_ := Aside0.mk ((by rw [hw]; exact below_set (HB.out) GB53.out : Below w.heap.size w w58)); clear HO_4; clear HO_8; clear HO_12; clear HO_13; clear HO_15; clear HB; have HO_4 := n0_; have HO_8 := n1_; have HO_12 := n2_; have HO_13 := n3_; have HO_15 := n4_; have HB := n5_; clear n0_ n1_ n2_ n3_ n4_ n5_; clear hg hw hp_; have p450 : 0 ≤ (x16_3 : Int) := of_decide_eq_true (by assumption); have q450 : x16_3 < (t435.length : Int) := of_decide_eq_true (by assumption); obtain ⟨ad450, e450, hx450_0⟩ := Kd.at_int (Kd.R_reads' HO_12.out).2.2 x16_3 p450 q450; obtain rfl : ad448 = ad450 := (by injection e450); replace p450 := eq_true p450; replace q450 := eq_true q450; have p55 : 0 ≤ ((ji50) : Int) := of_decide_eq_true (by assumption); have q55 : ((ji50) : Int) < ((x15_3.length : Int) : Int) := of_decide_eq_true (by assumption); obtain ⟨go55, co55, eo55, gb55, gl55, cl55, HG55⟩ := Kd.R_form HO_15.out (by omega); (first | cases eo55 | (injection eo55 with ea_ en_ ec_; (first | subst ea_ | (injection ea_ with ea_; subst ea_)); subst ec_; clear en_)); have GB55 := Aside0.mk gb55; have GG55 := Aside0.mk HG55; clear gb55 gl55 HG55; obtain ⟨hx55_0, hf55_0⟩ := Kd.R_celln (⟨#[]⟩ : ByteArray) HO_15.out ((ji50) : Int) p55 q55; replace p55 := eq_true p55; replace q55 := eq_true q55; obtain ⟨hy59_, hz59_⟩ := Kd.R_celln (⟨#[]⟩ : ByteArray) HO_15.out ((ji50) : Int) (of_decide_eq_true (by assumption)) (of_decide_eq_true (by assumption)); have HP59 := Kd.R_putg HO_15.out ((ji50) : Int) (⟨#[103, 111, 110, 101]⟩ : ByteArray)) | ((with_reducible refine gate_store (t := 9) (p := 120) rfl ?_); refine store_event (t := 9) (p := 120) (v := ?vo_w60) (w1 := (w58.setCell ⟨go55, ((ji50) : Int).toNat, none⟩ (.string (⟨#[103, 111, 110, 101]⟩ : ByteArray)))) ?hg ?ho ?hn ?hr ?_; (case ho => rfl); (case hg => rfl); (case hn => rfl); (case hr => first | (go_simp; done) | (go_simp; rfl)); intro w60 hw; have hg : w58.grownBy w60 (some go55) := (by rw [hw]; exact HP59.2); have hp_ : Kd.R Kd.string 9 w60 w.heap.size (fun k_ => some k_ ≠ (.slice Ao10 t415.length co10 : Value).ownBlock ∧ some k_ ≠ (.slice Ao45 t421.length co45 : Value).ownBlock) (.slice (some ⟨go55, 0, none⟩) x15_3.length co55) y451 := (by rw [hw, Ny451.out]; exact HP59.1); clear HP59; have n0_ := Aside0.mk (Kd.R_after (v := (.slice (some ⟨go55, 0, none⟩) x15_3.length co55)) (v1 := (.slice (some ⟨go55, 0, none⟩) x15_3.length co55)) (ok := (fun k_ => some k_ ≠ (.slice Ao45 t421.length co45 : Value).ownBlock)) (by exact HO_4.out) hg (.inl rfl)); have n1_ := Aside0.mk (Kd.R_after (v := (.slice (some ⟨go55, 0, none⟩) x15_3.length co55)) (v1 := (.slice (some ⟨go55, 0, none⟩) x15_3.length co55)) (ok := (fun k_ => some k_ ≠ (.slice Ao10 t415.length co10 : Value).ownBlock)) (by exact HO_8.out) hg (.inl rfl)); have n2_ := Aside0.mk (Kd.R_over' (v := (.slice (some ⟨go55, 0, none⟩) x15_3.length co55)) (by exact HO_12.out) (Kd.R_typed HO_15.out) (by decide) hg); have n3_ := Aside0.mk (Kd.R_over' (v := (.slice (some ⟨go55, 0, none⟩) x15_3.length co55)) (by exact HO_13.out) (Kd.R_typed HO_15.out) (by decide) hg); have n4_ := Aside0.mk (hp_); have n5_ := Aside0.mk ((by rw [hw]; exact below_set (HB.out) GB55.out : Below w.heap.size w w60)); clear HO_4; clear HO_8; clear HO_12; clear HO_13; clear HO_15; clear HB; have HO_4 := n0_; have HO_8 := n1_; have HO_12 := n2_; have HO_13 := n3_; have HO_15 := n4_; have HB := n5_; clear n0_ n1_ n2_ n3_ n4_ n5_; clear hg hw hp_))
                    go_roundg k3
                    case measure => have := HJ7.out; have := HK2.out; have := HK3.out; omega
                    case rel => exact ⟨(y449), (y451), (wrap64 (x16_3 + 1)), (by first | rfl | (simp; done) | (simp [*]; done)), H', ⟨by have := HJ7.out; have := HK2.out; have := HK3.out; omega⟩, ⟨by exact HO_4.out⟩, ⟨by exact HO_8.out⟩, ⟨by exact HO_12.out⟩, ⟨by exact HO_13.out⟩, ⟨by exact HO_15.out⟩, ⟨by repeat (first | exact HB.out | apply below_alloc | apply pw_below_drewN | apply below_drew1)⟩⟩
                   ·rw [if_neg c54] at H
                    exact absurd H (by simp)
                  ·rw [if_neg c52] at H
                   exact absurd H (by simp)
                 ·rw [if_neg c51] at H
                  exact absurd H (by simp)
               ·rw [if_neg c48] at H
                exact absurd H (by simp)
              ·rw [if_neg c47] at H
               exact absurd H (by simp)
             ·rw [if_neg c46] at H
              have c46b0 : decide (x16_3 < t419) = false := decide_eq_false c46
              clear c46
              replace H := Option.bind_eq_some_iff.mp H
              obtain ⟨⟨t452, t453⟩, A610, H⟩ := H
              replace H : ((impl_Rebuild.f k3 t414 x15_3 x13_3).bind fun bt456 => (if t453 = true then (if bt456.2 = true then ((laws_sameTexts.f k3 t452 t415).bind fun t460 => (if t460 = true then ((laws_sameTexts.f k3 bt456.1 t421).bind fun t461 => (laws_FnCodes.j3 k3 t414 t418 t419 t435 x13_3 x15_3 (!t461))) else (laws_FnCodes.j3 k3 t414 t418 t419 t435 x13_3 x15_3 true))) else (laws_FnCodes.j3 k3 t414 t418 t419 t435 x13_3 x15_3 true)) else (laws_FnCodes.j3 k3 t414 t418 t419 t435 x13_3 x15_3 true))) = some r := H
              have A61 := Aside0.mk A610
              clear A610
              replace H := Option.bind_eq_some_iff.mp H
              obtain ⟨⟨t456, t457⟩, A620, H⟩ := H
              replace H : (if t453 = true then (if t457 = true then ((laws_sameTexts.f k3 t452 t415).bind fun t460 => (if t460 = true then ((laws_sameTexts.f k3 t456 t421).bind fun t461 => (laws_FnCodes.j3 k3 t414 t418 t419 t435 x13_3 x15_3 (!t461))) else (laws_FnCodes.j3 k3 t414 t418 t419 t435 x13_3 x15_3 true))) else (laws_FnCodes.j3 k3 t414 t418 t419 t435 x13_3 x15_3 true)) else (laws_FnCodes.j3 k3 t414 t418 t419 t435 x13_3 x15_3 true)) = some r := H
              have A62 := Aside0.mk A620
              clear A620
              have HC63 := Aside0.mk H
              clear H
              obtain ⟨Ao64, co64, eo64⟩ := Kd.R_slice HO_15.out
              subst eo64
              obtain ⟨Ao65, co65, eo65⟩ := Kd.R_slice HO_13.out
              subst eo65
              go_upto_region 23 with (first | ((with_reducible refine gate_callee (f := 14) rfl ?_); refine goesL_ (some 125) rfl rfl Try.func14 (by kernel_rfl) rfl #[.int .i64 t414, .slice Ao64 x15_3.length co64, .slice Ao65 x13_3.length co65] rfl (by (try simp only [List.map_toArray, List.map_cons, List.map_nil]); first | done | rfl) ?_; (with_reducible refine (impl_Decode.calls k3 t414 _ _ x15_3 _ _ x13_3 t452 t453 _ ?side1 ?side2 ?side3 ?side4 A61.out).mono ?_); (case side1 => repeat (first | exact (Kd.R_reads' HO_15.out).2.2 | (with_reducible refine Kd.C_alloc ?_ _) | (with_reducible refine Kd.C_drewN ?_ _) | (with_reducible refine Kd.C_drew ?_))); (case side2 => exact (Kd.R_reads' HO_15.out).2.1); (case side3 => repeat (first | exact (Kd.R_reads' HO_13.out).2.2 | (with_reducible refine Kd.C_alloc ?_ _) | (with_reducible refine Kd.C_drewN ?_ _) | (with_reducible refine Kd.C_drew ?_))); (case side4 => exact (Kd.R_reads' HO_13.out).2.1); rintro e w66 ⟨v454, rfl, ho0, hb⟩; refine ⟨_, rfl, ?_⟩; have n0_ := Aside0.mk (Kd.R_elder' (by exact HO_4.out) (Kd.R_base ho0) hb); have n1_ := Aside0.mk (Kd.R_elder' (by exact HO_8.out) (Kd.R_base ho0) hb); have n2_ := Aside0.mk (Kd.R_below (by exact HO_12.out) hb); have n3_ := Aside0.mk (Kd.R_below (by exact HO_13.out) hb); have n4_ := Aside0.mk (Kd.R_elder' (by exact HO_15.out) (Kd.R_base ho0) hb); have n5_ := Aside0.mk (Kd.R_lower (Kd.R_new' (Kd.R_new' (Kd.R_new' ho0 (Kd.R_lt (by exact HO_4.out))) (Kd.R_lt (by exact HO_8.out))) (Kd.R_lt (by exact HO_15.out))) (below_size (by repeat (first | exact HB.out | apply below_alloc | apply pw_below_drewN | apply below_drew1)))); have n6_ := Aside0.mk (below_step (by repeat (first | exact HB.out | apply below_alloc | apply pw_below_drewN | apply below_drew1)) hb); clear HO_4; clear HO_8; clear HO_12; clear HO_13; clear HO_15; clear HB; have HO_4 := n0_; have HO_8 := n1_; have HO_12 := n2_; have HO_13 := n3_; have HO_15 := n4_; have HO455 := n5_; have HB := n6_; clear n0_ n1_ n2_ n3_ n4_ n5_ n6_; (try clear hb); (try clear ho0)) | ((with_reducible refine gate_callee (f := 15) rfl ?_); refine goesL_ (some 132) rfl rfl Try.func15 (by kernel_rfl) rfl #[.int .i64 t414, .slice Ao64 x15_3.length co64, .slice Ao65 x13_3.length co65] rfl (by (try simp only [List.map_toArray, List.map_cons, List.map_nil]); first | done | rfl) ?_; (with_reducible refine (impl_Rebuild.calls k3 t414 _ _ x15_3 _ _ x13_3 t456 t457 _ ?side1 ?side2 ?side3 ?side4 A62.out).mono ?_); (case side1 => repeat (first | exact (Kd.R_reads' HO_15.out).2.2 | (with_reducible refine Kd.C_alloc ?_ _) | (with_reducible refine Kd.C_drewN ?_ _) | (with_reducible refine Kd.C_drew ?_))); (case side2 => exact (Kd.R_reads' HO_15.out).2.1); (case side3 => repeat (first | exact (Kd.R_reads' HO_13.out).2.2 | (with_reducible refine Kd.C_alloc ?_ _) | (with_reducible refine Kd.C_drewN ?_ _) | (with_reducible refine Kd.C_drew ?_))); (case side4 => exact (Kd.R_reads' HO_13.out).2.1); rintro e w67 ⟨v458, rfl, ho0, hb⟩; refine ⟨_, rfl, ?_⟩; have n0_ := Aside0.mk (Kd.R_elder' (by exact HO_4.out) (Kd.R_base ho0) hb); have n1_ := Aside0.mk (Kd.R_elder' (by exact HO_8.out) (Kd.R_base ho0) hb); have n2_ := Aside0.mk (Kd.R_below (by exact HO_12.out) hb); have n3_ := Aside0.mk (Kd.R_below (by exact HO_13.out) hb); have n4_ := Aside0.mk (Kd.R_elder' (by exact HO_15.out) (Kd.R_base ho0) hb); have n5_ := Aside0.mk (Kd.R_elder' (by exact HO455.out) (Kd.R_base ho0) hb); have n6_ := Aside0.mk (Kd.R_lower (Kd.R_new' (Kd.R_new' (Kd.R_new' (Kd.R_new' ho0 (Kd.R_lt (by exact HO_4.out))) (Kd.R_lt (by exact HO_8.out))) (Kd.R_lt (by exact HO_15.out))) (Kd.R_lt (by exact HO455.out))) (below_size (by repeat (first | exact HB.out | apply below_alloc | apply pw_below_drewN | apply below_drew1)))); have n7_ := Aside0.mk (below_step (by repeat (first | exact HB.out | apply below_alloc | apply pw_below_drewN | apply below_drew1)) hb); clear HO_4; clear HO_8; clear HO_12; clear HO_13; clear HO_15; clear HO455; clear HB; have HO_4 := n0_; have HO_8 := n1_; have HO_12 := n2_; have HO_13 := n3_; have HO_15 := n4_; have HO455 := n5_; have HO459 := n6_; have HB := n7_; clear n0_ n1_ n2_ n3_ n4_ n5_ n6_ n7_; (try clear hb); (try clear ho0)))
              (try simp only [Act.put, List.setIfInBounds_toArray, List.set_cons_zero, List.set_cons_succ])
              go_cut [152] (fun v152 wc => ∃ (kq : Nat) (x152_62 : Bool), v152 = .bool x152_62 ∧ Aside0 (laws_FnCodes.j3 kq t414 t418 t419 t435 x13_3 x15_3 x152_62 = some r) ∧ Aside0 (kq ≤ k3) ∧ Aside0 (Kd.R (Kd.int .i64) 3 wc w.heap.size (fun _ => True) v436 t435) ∧ Aside0 (Kd.R Kd.bool 4 wc w.heap.size (fun _ => True) (.slice Ao65 x13_3.length co65) x13_3) ∧ Aside0 (Kd.R Kd.string 9 wc w.heap.size (fun _ => True) (.slice Ao64 x15_3.length co64) x15_3) ∧ Aside0 (Below w.heap.size w wc))
              case first =>
               have H := HC63.out
               clear HC63
               by_cases c68 : t453 = true
               ·subst c68
                have H1 : (if t457 = true then ((laws_sameTexts.f k3 t452 t415).bind fun t460 => (if t460 = true then ((laws_sameTexts.f k3 t456 t421).bind fun t461 => (laws_FnCodes.j3 k3 t414 t418 t419 t435 x13_3 x15_3 (!t461))) else (laws_FnCodes.j3 k3 t414 t418 t419 t435 x13_3 x15_3 true))) else (laws_FnCodes.j3 k3 t414 t418 t419 t435 x13_3 x15_3 true)) = some r := by rw [if_pos rfl] at H; exact H
                clear H
                have H := H1
                clear H1
                by_cases c69 : t457 = true
                ·subst c69
                 have H1 : ((laws_sameTexts.f k3 t452 t415).bind fun t460 => (if t460 = true then ((laws_sameTexts.f k3 t456 t421).bind fun t461 => (laws_FnCodes.j3 k3 t414 t418 t419 t435 x13_3 x15_3 (!t461))) else (laws_FnCodes.j3 k3 t414 t418 t419 t435 x13_3 x15_3 true))) = some r := by rw [if_pos rfl] at H; exact H
                 clear H
                 have H := H1
                 clear H1
                 replace H := Option.bind_eq_some_iff.mp H
                 obtain ⟨t460, A700, H⟩ := H
                 replace H : (if t460 = true then ((laws_sameTexts.f k3 t456 t421).bind fun t461 => (laws_FnCodes.j3 k3 t414 t418 t419 t435 x13_3 x15_3 (!t461))) else (laws_FnCodes.j3 k3 t414 t418 t419 t435 x13_3 x15_3 true)) = some r := H
                 have A70 := Aside0.mk A700
                 clear A700
                 by_cases c71 : t460 = true
                 ·subst c71
                  have H1 : ((laws_sameTexts.f k3 t456 t421).bind fun t461 => (laws_FnCodes.j3 k3 t414 t418 t419 t435 x13_3 x15_3 (!t461))) = some r := by rw [if_pos rfl] at H; exact H
                  clear H
                  have H := H1
                  clear H1
                  replace H := Option.bind_eq_some_iff.mp H
                  obtain ⟨t461, A720, H⟩ := H
                  replace H : (laws_FnCodes.j3 k3 t414 t418 t419 t435 x13_3 x15_3 (!t461)) = some r := H
                  have A72 := Aside0.mk A720
                  clear A720
                  have H' := Aside0.mk H
                  clear H
                  obtain ⟨Ao73, co73, eo73⟩ := Kd.R_slice HO455.out
                  subst eo73
                  go_wp2_with (first | (go_at_call 12; (with_reducible refine (laws_sameTexts.calls k3 _ _ t452 _ _ t415 true _ ?side1 ?side2 ?side3 ?side4 A70.out).mono ?_); (case side1 => repeat (first | exact (Kd.R_reads' HO455.out).2.2 | (with_reducible refine Kd.C_alloc ?_ _) | (with_reducible refine Kd.C_drewN ?_ _) | (with_reducible refine Kd.C_drew ?_))); (case side2 => exact (Kd.R_reads' HO455.out).2.1); (case side3 => repeat (first | exact (Kd.R_reads' HO_4.out).2.2 | (with_reducible refine Kd.C_alloc ?_ _) | (with_reducible refine Kd.C_drewN ?_ _) | (with_reducible refine Kd.C_drew ?_))); (case side4 => exact (Kd.R_reads' HO_4.out).2.1); rintro e w' ⟨rfl, ⟨nd, rfl⟩⟩; obtain ⟨Ao74, co74, eo74⟩ := Kd.R_slice HO459.out; subst eo74) | (go_at_call 12; (with_reducible refine (laws_sameTexts.calls k3 _ _ t456 _ _ t421 t461 _ ?side1 ?side2 ?side3 ?side4 A72.out).mono ?_); (case side1 => repeat (first | exact (Kd.R_reads' HO459.out).2.2 | (with_reducible refine Kd.C_alloc ?_ _) | (with_reducible refine Kd.C_drewN ?_ _) | (with_reducible refine Kd.C_drew ?_))); (case side2 => exact (Kd.R_reads' HO459.out).2.1); (case side3 => repeat (first | exact (Kd.R_reads' HO_8.out).2.2 | (with_reducible refine Kd.C_alloc ?_ _) | (with_reducible refine Kd.C_drewN ?_ _) | (with_reducible refine Kd.C_drew ?_))); (case side4 => exact (Kd.R_reads' HO_8.out).2.1); rintro e w' ⟨rfl, ⟨nd, rfl⟩⟩))
                  go_meet
                  case rel => exact ⟨_, (!t461), (by first | rfl | (simp; done) | (simp [*]; done)), H', ⟨by have := HJ7.out; have := HK2.out; have := HK3.out; first | omega | exact Nat.le_refl _⟩, ⟨by exact HO_12.out⟩, ⟨by exact HO_13.out⟩, ⟨by exact Kd.R_mono HO_15.out (fun _ hk => trivial)⟩, ⟨by repeat (first | exact HB.out | apply below_alloc | apply pw_below_drewN | apply below_drew1)⟩⟩
                 ·replace c71 := Bool.eq_false_iff.mpr c71
                  subst c71
                  have H1 : (laws_FnCodes.j3 k3 t414 t418 t419 t435 x13_3 x15_3 true) = some r := by rw [if_neg (show ¬ (false = true) by decide)] at H; exact H
                  clear H
                  have H := H1
                  clear H1
                  have H' := Aside0.mk H
                  clear H
                  obtain ⟨Ao75, co75, eo75⟩ := Kd.R_slice HO455.out
                  subst eo75
                  go_wp2_with (first | (go_at_call 12; (with_reducible refine (laws_sameTexts.calls k3 _ _ t452 _ _ t415 false _ ?side1 ?side2 ?side3 ?side4 A70.out).mono ?_); (case side1 => repeat (first | exact (Kd.R_reads' HO455.out).2.2 | (with_reducible refine Kd.C_alloc ?_ _) | (with_reducible refine Kd.C_drewN ?_ _) | (with_reducible refine Kd.C_drew ?_))); (case side2 => exact (Kd.R_reads' HO455.out).2.1); (case side3 => repeat (first | exact (Kd.R_reads' HO_4.out).2.2 | (with_reducible refine Kd.C_alloc ?_ _) | (with_reducible refine Kd.C_drewN ?_ _) | (with_reducible refine Kd.C_drew ?_))); (case side4 => exact (Kd.R_reads' HO_4.out).2.1); rintro e w' ⟨rfl, ⟨nd, rfl⟩⟩))
                  go_meet
                  case rel => exact ⟨_, (true), (by first | rfl | (simp; done) | (simp [*]; done)), H', ⟨by have := HJ7.out; have := HK2.out; have := HK3.out; first | omega | exact Nat.le_refl _⟩, ⟨by exact HO_12.out⟩, ⟨by exact HO_13.out⟩, ⟨by exact Kd.R_mono HO_15.out (fun _ hk => trivial)⟩, ⟨by repeat (first | exact HB.out | apply below_alloc | apply pw_below_drewN | apply below_drew1)⟩⟩
                ·replace c69 := Bool.eq_false_iff.mpr c69
                 subst c69
                 have H1 : (laws_FnCodes.j3 k3 t414 t418 t419 t435 x13_3 x15_3 true) = some r := by rw [if_neg (show ¬ (false = true) by decide)] at H; exact H
                 clear H
                 have H := H1
                 clear H1
                 have H' := Aside0.mk H
                 clear H
                 go_wp2
                 go_meet
                 case rel => exact ⟨_, (true), (by first | rfl | (simp; done) | (simp [*]; done)), H', ⟨by have := HJ7.out; have := HK2.out; have := HK3.out; first | omega | exact Nat.le_refl _⟩, ⟨by exact HO_12.out⟩, ⟨by exact HO_13.out⟩, ⟨by exact Kd.R_mono HO_15.out (fun _ hk => trivial)⟩, ⟨by repeat (first | exact HB.out | apply below_alloc | apply pw_below_drewN | apply below_drew1)⟩⟩
               ·replace c68 := Bool.eq_false_iff.mpr c68
                subst c68
                have H1 : (laws_FnCodes.j3 k3 t414 t418 t419 t435 x13_3 x15_3 true) = some r := by rw [if_neg (show ¬ (false = true) by decide)] at H; exact H
                clear H
                have H := H1
                clear H1
                have H' := Aside0.mk H
                clear H
                go_wp2
                go_meet
                case rel => exact ⟨_, (true), (by first | rfl | (simp; done) | (simp [*]; done)), H', ⟨by have := HJ7.out; have := HK2.out; have := HK3.out; first | omega | exact Nat.le_refl _⟩, ⟨by exact HO_12.out⟩, ⟨by exact HO_13.out⟩, ⟨by exact Kd.R_mono HO_15.out (fun _ hk => trivial)⟩, ⟨by repeat (first | exact HB.out | apply below_alloc | apply pw_below_drewN | apply below_drew1)⟩⟩
              case rest =>
               clear HC63
               obtain ⟨kq, x152_62, rfl, HA, HJ62, HO_12, HO_13, HO_15, HB⟩ := hcut
               cases kq with
               | zero => exact absurd HA.out (by simp [laws_FnCodes.j3])
               | succ kj62 =>
                have H := HA.out
                clear HA
                simp only [laws_FnCodes.j3] at H
                by_cases c76 : x152_62 = true
                ·subst c76
                 have H1 : (some false) = some r := by rw [if_pos rfl] at H; exact H
                 clear H
                 have H := H1
                 clear H1
                 obtain rfl := Option.some.inj H
                 go_wp2
                 go_ret
                 exact ⟨by first | rfl | (simp [errW_none, errW_some] <;> rfl) | (simp only [← hji29]; first | rfl | (simp [errW_none, errW_some] <;> rfl)) | (simp [*, errW_none, errW_some] <;> rfl), by repeat (first | exact HB.out | apply below_alloc | apply pw_below_drewN | apply below_drew1)⟩
                ·replace c76 := Bool.eq_false_iff.mpr c76
                 subst c76
                 have H1 : (laws_FnCodes.l2 kj62 t414 t418 t419 t435 x13_3 x15_3 0) = some r := by rw [if_neg (show ¬ (false = true) by decide)] at H; exact H
                 clear H
                 have H := H1
                 clear H1
                 have H' := Aside0.mk H
                 clear H
                 go_wp2
                 go_loopg [21] kj62 (fun kq v21 w' => ∃ (x13_5 : List Bool) (x21_5 : Int), v21 = .int .i64 x21_5 ∧ Aside0 (laws_FnCodes.l2 kq t414 t418 t419 t435 x13_5 x15_3 x21_5 = some r) ∧ Aside0 (kq ≤ kj62) ∧ Aside0 (Kd.R (Kd.int .i64) 3 w' w.heap.size (fun _ => True) v436 t435) ∧ Aside0 (Kd.R Kd.bool 4 w' w.heap.size (fun _ => True) (.slice Ao65 x13_3.length co65) x13_5) ∧ Aside0 (Kd.R Kd.string 9 w' w.heap.size (fun _ => True) (.slice Ao64 x15_3.length co64) x15_3) ∧ Aside0 (Below w.heap.size w w'))
                 case atStart => exact ⟨(x13_3), (0), (by first | rfl | (simp; done) | (simp [*]; done)), H', ⟨Nat.le_refl _⟩, ⟨by exact HO_12.out⟩, ⟨by exact HO_13.out⟩, ⟨by exact HO_15.out⟩, ⟨by repeat (first | exact HB.out | apply below_alloc | apply pw_below_drewN | apply below_drew1)⟩⟩
                 case round =>
                  clear H'
                  obtain ⟨x13_5, x21_5, rfl, HA, HK5, HO_12, HO_13, HO_15, HB⟩ := hrel
                  have hl13_5 := (Kd.R_reads' HO_13.out).1
                  rw [hl13_5] at HO_13
                  (try simp only [hl13_5])
                  (try simp only [hl13_5] at HO_12)
                  (try simp only [hl13_5] at HO_15)
                  cases gk with
                  | zero => exact absurd HA.out (by simp [laws_FnCodes.l2])
                  | succ k5 =>
                   have H := HA.out
                   clear HA
                   simp only [laws_FnCodes.l2] at H
                   by_cases c77 : x21_5 ≤ t419
                   ·rw [if_pos c77] at H
                    have c77b0 : decide (x21_5 ≤ t419) = true := decide_eq_true c77
                    clear c77
                    by_cases c78 : 4 < (t435.length : Int)
                    ·rw [if_pos c78] at H
                     have c78b0 : decide (4 < (t435.length : Int)) = true := decide_eq_true c78
                     have c78b1 : decide (4 < t435.length) = true := decide_eq_true (by omega)
                     clear c78
                     by_cases c79 : (wrap64 (t418 + t419)) = 0
                     ·rw [if_pos c79] at H
                      exact absurd H (by simp)
                     ·rw [if_neg c79] at H
                      have c79b0 : ((wrap64 (t418 + t419)) == 0) = false := beq_eq_false_iff_ne.mpr c79
                      try (have c79b7 := c79b0; rw [hji29] at c79b7)
                      have c79b1 : ((wrap64 (t418 + t419)) != 0) = true := bne_iff_ne.mpr c79
                      obtain ⟨ji80, hji80⟩ : ∃ j_ : Int, (Int.tmod (wrap64 ((rd t435 4) + x21_5)) (wrap64 (t418 + t419))) = j_ := ⟨_, rfl⟩
                      try (have hji80x := hji80; rw [hji29] at hji80x)
                      replace H : (if 0 ≤ (ji80) then (if (ji80) < (x13_5.length : Int) then (laws_FnCodes.l2 k5 t414 t418 t419 t435 (x13_5.set ((ji80) : Int).toNat false) x15_3 (wrap64 (x21_5 + 1))) else (none)) else (none)) = some r := by first | (rw [hji80] at H; exact H) | (simp only [hji80] at H ⊢; exact H)
                      by_cases c81 : 0 ≤ (ji80)
                      ·rw [if_pos c81] at H
                       have c81b0 : decide (0 ≤ (ji80)) = true := decide_eq_true c81
                       clear c81
                       by_cases c82 : (ji80) < (x13_5.length : Int)
                       ·rw [if_pos c82] at H
                        have c82b0 : decide ((ji80) < (x13_5.length : Int)) = true := decide_eq_true c82
                        clear c82
                        obtain ⟨y463, hy463⟩ : ∃ y_ : List Bool, y_ = (x13_5.set ((ji80) : Int).toNat false) := ⟨_, rfl⟩
                        replace H : (laws_FnCodes.l2 k5 t414 t418 t419 t435 y463 x15_3 (wrap64 (x21_5 + 1))) = some r := by first | (rw [hy463]; with_reducible exact H) | (have H2_ := (Option.bind_some _ _).symm.trans H; rw [hy463]; with_reducible exact H2_) | (have H2_ := (Option.bind_some _ _).symm.trans H; with_reducible exact H2_) | with_reducible exact H | (rw [hy463]; exact H) | exact H
                        have Ny463 := Aside0.mk hy463
                        clear hy463
                        have H' := Aside0.mk H
                        clear H
                        obtain ⟨Ao84, co84, eo84⟩ := Kd.R_slice HO_12.out
                        subst eo84
                        have p462 : 0 ≤ (4 : Int) := (by omega)
                        have q462 : 4 < (t435.length : Int) := of_decide_eq_true (by assumption)
                        obtain ⟨ad462, e462, hx462_0⟩ := Kd.at_int (Kd.R_reads' HO_12.out).2.2 4 p462 q462
                        cases e462
                        (try simp only [show (4 : Int).toNat = 4 from rfl, Nat.reduceMul, Nat.reduceEqDiff, Go.Addr.add, ↓reduceIte] at hx462_0)
                        have qi462 : (4 < t435.length) = True := eq_true (by omega)
                        (try rw [show ((4 : Int)).toNat = 4 from rfl] at hx462_0)
                        replace p462 := eq_true p462
                        replace q462 := eq_true q462
                        have p83 : 0 ≤ ((ji80) : Int) := of_decide_eq_true (by assumption)
                        have q83 : ((ji80) : Int) < ((x13_5.length : Int) : Int) := of_decide_eq_true (by assumption)
                        obtain ⟨go83, co83, eo83, gb83, gl83, cl83, HG83⟩ := Kd.R_form HO_13.out (by omega)
                        (first | cases eo83 | (injection eo83 with ea_ en_ ec_; (first | subst ea_ | (injection ea_ with ea_; subst ea_)); subst ec_; clear en_))
                        have GB83 := Aside0.mk gb83
                        have GG83 := Aside0.mk HG83
                        clear gb83 gl83 HG83
                        obtain ⟨hx83_0, hf83_0⟩ := Kd.R_celln false HO_13.out ((ji80) : Int) p83 q83
                        replace p83 := eq_true p83
                        replace q83 := eq_true q83
                        have HP85 := Kd.R_putg HO_13.out ((ji80) : Int) false
                        go_wp2_with (first | ((with_reducible refine gate_store (t := 4) (p := 168) rfl ?_); refine store_event (t := 4) (p := 168) (v := ?vo_w86) (w1 := (wr.setCell ⟨go83, ((ji80) : Int).toNat, none⟩ (.bool false))) ?hg ?ho ?hn ?hr ?_; (case ho => rfl); (case hg => rfl); (case hn => rfl); (case hr => first | (go_simp; done) | (go_simp; rfl)); intro w86 hw; have hg : wr.grownBy w86 (some go83) := (by rw [hw]; exact HP85.2); have hp_ : Kd.R Kd.bool 4 w86 w.heap.size (fun _ => True) (.slice (some ⟨go83, 0, none⟩) x13_5.length co65) y463 := (by rw [hw, Ny463.out]; exact HP85.1); clear HP85; have n0_ := Aside0.mk (Kd.R_over' (v := (.slice (some ⟨go83, 0, none⟩) x13_5.length co65)) (by exact HO_12.out) (Kd.R_typed HO_13.out) (by decide) hg); have n1_ := Aside0.mk (hp_); have n2_ := Aside0.mk (Kd.R_over' (v := (.slice (some ⟨go83, 0, none⟩) x13_5.length co65)) (by exact HO_15.out) (Kd.R_typed HO_13.out) (by decide) hg); have n3_ := Aside0.mk ((by rw [hw]; exact below_set (HB.out) GB83.out : Below w.heap.size w w86)); clear HO_12; clear HO_13; clear HO_15; clear HB; have HO_12 := n0_; have HO_13 := n1_; have HO_15 := n2_; have HB := n3_; clear n0_ n1_ n2_ n3_; clear hg hw hp_))
                        (try simp only [← hl13_5])
                        go_roundg k5
                        case measure => have := HJ7.out; have := HK2.out; have := HK3.out; have := HJ62.out; have := HK5.out; omega
                        case rel => exact ⟨(y463), (wrap64 (x21_5 + 1)), (by first | rfl | (simp; done) | (simp [*]; done)), H', ⟨by have := HJ7.out; have := HK2.out; have := HK3.out; have := HJ62.out; have := HK5.out; omega⟩, ⟨by (try simp only [hl13_5]); exact HO_12.out⟩, ⟨by (try simp only [hl13_5]); exact HO_13.out⟩, ⟨by (try simp only [hl13_5]); exact HO_15.out⟩, ⟨by repeat (first | exact HB.out | apply below_alloc | apply pw_below_drewN | apply below_drew1)⟩⟩
                       ·rw [if_neg c82] at H
                        exact absurd H (by simp)
                      ·rw [if_neg c81] at H
                       exact absurd H (by simp)
                    ·rw [if_neg c78] at H
                     exact absurd H (by simp)
                   ·rw [if_neg c77] at H
                    have c77b0 : decide (x21_5 ≤ t419) = false := decide_eq_false c77
                    clear c77
                    replace H := Option.bind_eq_some_iff.mp H
                    obtain ⟨⟨t464, t465⟩, A870, H⟩ := H
                    replace H : (some (!t465)) = some r := H
                    have A87 := Aside0.mk A870
                    clear A870
                    obtain rfl := Option.some.inj H
                    go_wp2_with (first | ((with_reducible refine gate_callee (f := 14) rfl ?_); refine goesL_ (some 173) rfl rfl Try.func14 (by kernel_rfl) rfl #[.int .i64 t414, .slice Ao64 x15_3.length co64, .slice Ao65 x13_5.length co65] rfl (by (try simp only [List.map_toArray, List.map_cons, List.map_nil]); first | done | rfl) ?_; (with_reducible refine (impl_Decode.calls k5 t414 _ _ x15_3 _ _ x13_5 t464 t465 _ ?side1 ?side2 ?side3 ?side4 A87.out).mono ?_); (case side1 => repeat (first | exact (Kd.R_reads' HO_15.out).2.2 | (with_reducible refine Kd.C_alloc ?_ _) | (with_reducible refine Kd.C_drewN ?_ _) | (with_reducible refine Kd.C_drew ?_))); (case side2 => exact (Kd.R_reads' HO_15.out).2.1); (case side3 => repeat (first | exact (Kd.R_reads' HO_13.out).2.2 | (with_reducible refine Kd.C_alloc ?_ _) | (with_reducible refine Kd.C_drewN ?_ _) | (with_reducible refine Kd.C_drew ?_))); (case side4 => exact (Kd.R_reads' HO_13.out).2.1); rintro e w88 ⟨v466, rfl, ho0, hb⟩; refine ⟨_, rfl, ?_⟩; have n0_ := Aside0.mk (Kd.R_below (by exact HO_12.out) hb); have n1_ := Aside0.mk (Kd.R_below (by exact HO_13.out) hb); have n2_ := Aside0.mk (Kd.R_elder' (by exact HO_15.out) (Kd.R_base ho0) hb); have n3_ := Aside0.mk (Kd.R_lower (Kd.R_new' ho0 (Kd.R_lt (by exact HO_15.out))) (below_size (by repeat (first | exact HB.out | apply below_alloc | apply pw_below_drewN | apply below_drew1)))); have n4_ := Aside0.mk (below_step (by repeat (first | exact HB.out | apply below_alloc | apply pw_below_drewN | apply below_drew1)) hb); clear HO_12; clear HO_13; clear HO_15; clear HB; have HO_12 := n0_; have HO_13 := n1_; have HO_15 := n2_; have HO467 := n3_; have HB := n4_; clear n0_ n1_ n2_ n3_ n4_; (try clear hb); (try clear ho0)))
                    go_ret
                    exact ⟨by first | rfl | (simp [errW_none, errW_some] <;> rfl) | (simp only [← hji29]; first | rfl | (simp [errW_none, errW_some] <;> rfl)) | (simp [*, errW_none, errW_some] <;> rfl), by repeat (first | exact HB.out | apply below_alloc | apply pw_below_drewN | apply below_drew1)⟩
          ·rw [if_neg c41] at H
           exact absurd H (by simp)
      ·rw [if_neg c31] at H
       exact absurd H (by simp)
     ·rw [if_neg c30] at H
      exact absurd H (by simp)

/-- THE ONE PURE STATEMENT of laws_FnCodes: yours. -/
def laws_FnCodes.Pure : Prop := ∀ (l0 : List Int), l0.length ≤ maxLen → l0.length * 1 ≤ 140737488351232 → (∀ x ∈ l0, (Lit.int .u8 x).wf = true) → ∃ k, laws_FnCodes.f k l0 = some true
theorem laws_FnCodes.walk (P : laws_FnCodes.Pure) (a0 : Option Addr) (len0 cap0 : Nat) (z0 : List Int) (w : World) (w0 : (a0 = none ∧ len0 = 0 ∧ cap0 = 0 ∧ z0 = []) ∨ ∃ x, a0 = some x ∧ len0 ≤ cap0 ∧ cap0 ≤ maxLen ∧ z0.length = cap0 ∧ (∀ i, i < z0.length → w.cell? (x.add i) = some (.int .u8 (z0.getD i 0))) ∧ ∀ n ∈ z0, (Lit.int .u8 n).wf = true) (y0 : len0 * 1 ≤ 140737488351232) :
  Calls Try.prog 3 #[.slice a0 len0 cap0] w fun e w' => e = .returned (.bool true) ∧ Below w.heap.size w w' := by
 obtain ⟨l0, rfl, hr0, hm0, hw0, hc0⟩ := ReadsInt.ofRowC w0
 obtain ⟨k, h⟩ := P l0 hm0 y0 hw0
 refine (laws_FnCodes.calls k _ _ l0 true w (Kd.C_of_reads (d := (0 : Int)) (h1 := fun _ => rfl) hr0) hc0 h).mono ?_
 rintro e w' ⟨rfl, hd⟩
 exact ⟨rfl, hd⟩

end Go.Proofs.Ytcpcphdhaboekaa.XFnCodes
