/- What the functions of a law compute, and that their calls compute it: written by a program of this session (xprint.py), which turns the kit print at a few places. -/
import Derived.Test.YtnkldnkolcighaaXFnActsx0
import Derived.Test.YtnkldnkolcighaaXFnActsx2
import Derived.Test.YtnkldnkolcighaaXFnActsx4
import Derived.Test.YtnkldnkolcighaaXFnActsx7
import Derived.Test.YtnkldnkolcighaaXFnActsx9
import Derived.Test.YtnkldnkolcighaaXFnActsx10
import Derived.Test.YtnkldnkolcighaaXFnActsx13
namespace Go.Proofs.Ytnkldnkolcighaa.XFnActs
open Go.RowKit Go.Proofs.YtnkldnkolcighaaQ.PrintWords Go.Proofs.YtnkldnkolcighaaQ.PrintLast Go.Proofs.YtnkldnkolcighaaQ.PrintMore
attribute [local go_sem] max2_int min2_int max_two min_two max_three min_three max_four min_four str_geq str_gtr   -- for this text's walks alone
set_option linter.unusedVariables false
set_option linter.unusedSimpArgs false

/-! ### laws_FnActs: function 8 -/
mutual
def laws_FnActs.j0 : Nat → List (S41) → Int → List Int → Int → Bool → List (S67) → List (S67) → Option (Bool)
 | 0, _, _, _, _, _, _, _ => none
 | k + 1, x4, x5, x6, x8, x52, x484000, x489000 => if x52 = true then (some false) else (laws_FnActs.l0 k x4 x5 x6 x8 0 x484000 x489000 x484000)
def laws_FnActs.l0 : Nat → List (S41) → Int → List Int → Int → Int → List (S67) → List (S67) → List (S67) → Option (Bool)
 | 0, _, _, _, _, _, _, _, _ => none
 | k + 1, x4, x5, x6, x8, x12, x484000, x489000, x496000 => if x12 < x8 then (if 0 ≤ x12 then (if x12 < (x4.length : Int) then ((impl_DoAct.f k x496000 ((rd_T41 x4 x12).f0) ((rd_T41 x4 x12).f1) ((rd_T41 x4 x12).f2) ((rd_T41 x4 x12).f3)).bind fun bt497 => (if bt497.2 = true then ((impl_FileAt.f x496000 ((rd_T41 x4 x12).f1)).bind fun bt503 => ((impl_FileAt.f bt497.1 ((rd_T41 x4 x12).f1)).bind fun bt506 => (if ((rd_T41 x4 x12).f0) = 1 then (if bt506.2 = true then (if bt503.1.size + ((rd_T41 x4 x12).f2).size ≤ 9223372036854775807 then (if bt506.1.toList = (bt503.1 ++ ((rd_T41 x4 x12).f2)).toList then (if ((rd_T41 x4 x12).f0) = 4 then (some false) else (laws_FnActs.l0 k x4 x5 x6 x8 (wrap64 (x12 + 1)) x484000 x489000 bt497.1)) else (some false)) else (none)) else (some false)) else (if ((rd_T41 x4 x12).f0) = 4 then (if bt506.2 = true then (some false) else (laws_FnActs.l0 k x4 x5 x6 x8 (wrap64 (x12 + 1)) x484000 x489000 bt497.1)) else (laws_FnActs.l0 k x4 x5 x6 x8 (wrap64 (x12 + 1)) x484000 x489000 bt497.1))))) else (some false))) else (none)) else (none)) else ((impl_CutActs.f k x484000 x4 x5 x6).bind fun bt512 => ((spec_CutActs.f k x484000 x4 x5 x6).bind fun bt517 => (if (bt512.2 == bt517.2) = true then ((laws_sameDisk.f k bt512.1 bt517.1).bind fun t522 => (if t522 = true then (if x8 = 0 then (some true) else ((laws_sameDisk.f k x496000 x489000).bind fun t523 => (some t523))) else (some false))) else (some false))))
end
def laws_FnActs.f (k : Nat) (l0 : List Int) : Option (Bool) := (laws_big.f l0).bind fun t472 => (if t472 = true then (some true) else ((spec_DrawCutActs.f k l0).bind fun bt473 => ((impl_DoActs.f k bt473.1 bt473.2.1).bind fun bt484 => ((spec_DoActs.f k bt473.1 bt473.2.1).bind fun bt489 => (if bt484.2 = bt489.2 then ((laws_sameDisk.f k bt484.1 bt489.1).bind fun t494 => (laws_FnActs.j0 k bt473.2.1 bt473.2.2.1 bt473.2.2.2 bt484.2 (!t494) bt473.1 bt484.1)) else (laws_FnActs.j0 k bt473.2.1 bt473.2.2.1 bt473.2.2.2 bt484.2 true bt473.1 bt484.1))))))
theorem laws_FnActs.mono_l : ∀ k, (∀ y0 y1 y2 y3 y4 y5 y6, LeO (laws_FnActs.j0 k y0 y1 y2 y3 y4 y5 y6) (laws_FnActs.j0 (k + 1) y0 y1 y2 y3 y4 y5 y6)) ∧ (∀ y0 y1 y2 y3 y4 y5 y6 y7, LeO (laws_FnActs.l0 k y0 y1 y2 y3 y4 y5 y6 y7) (laws_FnActs.l0 (k + 1) y0 y1 y2 y3 y4 y5 y6 y7))
 | 0 => ⟨fun _ _ _ _ _ _ _ r h => by simp [laws_FnActs.j0] at h, fun _ _ _ _ _ _ _ _ r h => by simp [laws_FnActs.l0] at h⟩
 | k + 1 => by
  obtain ⟨ih0, ih1⟩ := laws_FnActs.mono_l k
  refine ⟨?_, ?_⟩
  ·intro y0 y1 y2 y3 y4 y5 y6
   unfold laws_FnActs.j0
   repeat' first
   | (with_reducible exact LeO.refl _)
   | (with_reducible refine LeO.ite ?_ ?_)
   | (with_reducible refine LeO.bind ?_ (fun _ => ?_))
   | exact ih0 _ _ _ _ _ _ _
   | exact ih1 _ _ _ _ _ _ _ _
   | exact impl_CutActs.mono _ _ _ _ _
   | exact impl_DoAct.mono _ _ _ _ _ _
   | exact impl_DoActs.mono _ _ _
   | exact laws_sameDisk.mono _ _ _
   | exact spec_CutActs.mono _ _ _ _ _
   | exact spec_DoActs.mono _ _ _
   | exact spec_DrawCutActs.mono _ _
   | exact LeO.none _
   | refine LeO.ite ?_ ?_
   | refine LeO.bind ?_ (fun _ => ?_)
  intro y0 y1 y2 y3 y4 y5 y6 y7
  unfold laws_FnActs.l0
  repeat' first
  | (with_reducible exact LeO.refl _)
  | (with_reducible refine LeO.ite ?_ ?_)
  | (with_reducible refine LeO.bind ?_ (fun _ => ?_))
  | exact ih0 _ _ _ _ _ _ _
  | exact ih1 _ _ _ _ _ _ _ _
  | exact impl_CutActs.mono _ _ _ _ _
  | exact impl_DoAct.mono _ _ _ _ _ _
  | exact impl_DoActs.mono _ _ _
  | exact laws_sameDisk.mono _ _ _
  | exact spec_CutActs.mono _ _ _ _ _
  | exact spec_DoActs.mono _ _ _
  | exact spec_DrawCutActs.mono _ _
  | exact LeO.none _
  | refine LeO.ite ?_ ?_
  | refine LeO.bind ?_ (fun _ => ?_)
theorem laws_FnActs.mono : ∀ a0 k, LeO (laws_FnActs.f k a0) (laws_FnActs.f (k + 1) a0) := by
 intro a0 k
 obtain ⟨ih0, ih1⟩ := laws_FnActs.mono_l k
 unfold laws_FnActs.f
 repeat' first
   | (with_reducible exact LeO.refl _)
   | (with_reducible refine LeO.ite ?_ ?_)
   | (with_reducible refine LeO.bind ?_ (fun _ => ?_))
   | exact ih0 _ _ _ _ _ _ _
   | exact ih1 _ _ _ _ _ _ _ _
   | exact impl_CutActs.mono _ _ _ _ _
   | exact impl_DoAct.mono _ _ _ _ _ _
   | exact impl_DoActs.mono _ _ _
   | exact laws_sameDisk.mono _ _ _
   | exact spec_CutActs.mono _ _ _ _ _
   | exact spec_DoActs.mono _ _ _
   | exact spec_DrawCutActs.mono _ _
   | exact LeO.none _
   | refine LeO.ite ?_ ?_
   | refine LeO.bind ?_ (fun _ => ?_)
def laws_FnActs.T12 : Bool × List (List Nat × List Nat) := (true, [([], []), ([], []), ([], []), ([1, 2], [1, 2]), ([3], [3]), ([0, 4], [0, 4]), ([5], [5]), ([6], [6]), ([6], [6]), ([], []), ([9, 7, 5, 0, 1, 2, 3, 4, 5, 6, 7, 9], [7, 9]), ([8, 10, 0, 1, 2, 3, 4, 5, 6, 7, 8, 9, 10], [8])])
def laws_FnActs.B12 : List Nat := [0, 0, 0, 6, 14, 31, 63, 127, 127, 0, 767, 2047]
theorem laws_FnActs.tab12 : rtab .any (opsOf Try.f8 12) = laws_FnActs.T12 := by kernel_rfl
theorem laws_FnActs.bits12 : waitsOk laws_FnActs.T12.2 laws_FnActs.B12 = true := by kernel_rfl
def laws_FnActs.T15 : Bool × List (List Nat × List Nat) := (true, [([], []), ([], []), ([], []), ([1, 2], [1, 2]), ([3], [3]), ([4], [4]), ([0, 5], [0, 5]), ([6], [6]), ([7], [7]), ([7], [7]), ([8, 6, 0, 1, 2, 3, 4, 5, 6, 7, 8], [8]), ([9, 10, 0, 1, 2, 3, 4, 5, 6, 7, 8, 9, 10], [9])])
def laws_FnActs.B15 : List Nat := [0, 0, 0, 6, 14, 30, 63, 127, 255, 255, 511, 2047]
theorem laws_FnActs.tab15 : rtab .any (opsOf Try.f8 15) = laws_FnActs.T15 := by kernel_rfl
theorem laws_FnActs.bits15 : waitsOk laws_FnActs.T15.2 laws_FnActs.B15 = true := by kernel_rfl
def laws_FnActs.T16 : Bool × List (List Nat × List Nat) := (true, [([], []), ([], []), ([], []), ([1, 2], [1, 2]), ([3], [3]), ([4], [4]), ([0, 5], [0, 5]), ([6], [6]), ([7], [7]), ([7], [7]), ([8, 6, 0, 1, 2, 3, 4, 5, 6, 7, 8], [8]), ([9, 10, 0, 1, 2, 3, 4, 5, 6, 7, 8, 9, 10], [9])])
def laws_FnActs.B16 : List Nat := [0, 0, 0, 6, 14, 30, 63, 127, 255, 255, 511, 2047]
theorem laws_FnActs.tab16 : rtab .any (opsOf Try.f8 16) = laws_FnActs.T16 := by kernel_rfl
theorem laws_FnActs.bits16 : waitsOk laws_FnActs.T16.2 laws_FnActs.B16 = true := by kernel_rfl
set_option maxHeartbeats 8000000 in
set_option maxRecDepth 100000 in
theorem laws_FnActs.calls (k : Nat) (A0 : Option Addr) (c0 : Nat) (l0 : List Int) (r : Bool) (w : World) (hr0 : Kd.C (Kd.int .u8) w A0 l0.length l0) (hc0 : l0.length ≤ c0) (h : laws_FnActs.f k l0 = some r) (hT : Aside0 (r = true) := by exact ⟨rfl⟩) :
  Calls Try.prog 8 #[.slice A0 l0.length c0] w fun e w' => e = .returned (.bool r) ∧ Below w.heap.size w w' := by
 have hu30 := Try.underlying30
 have hu41 := Try.underlying41
 have HR0 := AM hr0
 have HC0 := AM hc0
 clear hr0 hc0
 have HB := AM (Below.refl w.heap.size w)
 have H : ((laws_big.f l0).bind fun t472 => (if t472 = true then (some true) else ((spec_DrawCutActs.f k l0).bind fun bt473 => ((impl_DoActs.f k bt473.1 bt473.2.1).bind fun bt484 => ((spec_DoActs.f k bt473.1 bt473.2.1).bind fun bt489 => (if bt484.2 = bt489.2 then ((laws_sameDisk.f k bt484.1 bt489.1).bind fun t494 => (laws_FnActs.j0 k bt473.2.1 bt473.2.2.1 bt473.2.2.2 bt484.2 (!t494) bt473.1 bt484.1)) else (laws_FnActs.j0 k bt473.2.1 bt473.2.2.1 bt473.2.2.2 bt484.2 true bt473.1 bt484.1))))))) = some r := h
 clear h
 replace H := bm H
 obtain ⟨t472, A20, H⟩ := H
 replace H : (if t472 = true then (some true) else ((spec_DrawCutActs.f k l0).bind fun bt473 => ((impl_DoActs.f k bt473.1 bt473.2.1).bind fun bt484 => ((spec_DoActs.f k bt473.1 bt473.2.1).bind fun bt489 => (if bt484.2 = bt489.2 then ((laws_sameDisk.f k bt484.1 bt489.1).bind fun t494 => (laws_FnActs.j0 k bt473.2.1 bt473.2.2.1 bt473.2.2.2 bt484.2 (!t494) bt473.1 bt484.1)) else (laws_FnActs.j0 k bt473.2.1 bt473.2.2.1 bt473.2.2.2 bt484.2 true bt473.1 bt484.1)))))) = some r := H
 have A2 := AM A20
 clear A20
 by_cases c3 : t472 = true
 ·subst c3
  have H1 : (some true) = some r := by rw [if_pos rfl] at H; exact H
  clear H
  have H := H1
  clear H1
  obtain rfl := Option.some.inj H
  go_enter Try.func8, Try.ntmps8
  go_wp2_with (first | ((with_reducible refine gc 33 rfl ?_); refine gl 24 Try.func33 #[.slice A0 l0.length c0] ?_; (with_reducible refine (laws_big.calls _ _ l0 true _ ?side1 ?side2 A2.out).mono ?_); (case side1 => repeat (first | exact HR0.out | (with_reducible first | refine cA ?_ _ | refine cN ?_ _ | refine cD ?_))); (case side2 => exact HC0.out); rintro e w' ⟨rfl, ⟨nd, rfl⟩⟩; refine ⟨_, rfl, ?_⟩))
  go_ret
  exact ⟨er, hB HB⟩
 replace c3 := Bool.eq_false_iff.mpr c3
 subst c3
 have H1 : ((spec_DrawCutActs.f k l0).bind fun bt473 => ((impl_DoActs.f k bt473.1 bt473.2.1).bind fun bt484 => ((spec_DoActs.f k bt473.1 bt473.2.1).bind fun bt489 => (if bt484.2 = bt489.2 then ((laws_sameDisk.f k bt484.1 bt489.1).bind fun t494 => (laws_FnActs.j0 k bt473.2.1 bt473.2.2.1 bt473.2.2.2 bt484.2 (!t494) bt473.1 bt484.1)) else (laws_FnActs.j0 k bt473.2.1 bt473.2.2.1 bt473.2.2.2 bt484.2 true bt473.1 bt484.1))))) = some r := by rw [if_neg (show ¬ (false = true) by decide)] at H; exact H
 clear H
 have H := H1
 clear H1
 replace H := bm H
 obtain ⟨⟨t473, t476, t479, t480⟩, A40, H⟩ := H
 replace H : ((impl_DoActs.f k t473 t476).bind fun bt484 => ((spec_DoActs.f k t473 t476).bind fun bt489 => (if bt484.2 = bt489.2 then ((laws_sameDisk.f k bt484.1 bt489.1).bind fun t494 => (laws_FnActs.j0 k t476 t479 t480 bt484.2 (!t494) t473 bt484.1)) else (laws_FnActs.j0 k t476 t479 t480 bt484.2 true t473 bt484.1)))) = some r := H
 have A4 := AM A40
 clear A40
 replace H := bm H
 obtain ⟨⟨t484, t487⟩, A50, H⟩ := H
 replace H : ((spec_DoActs.f k t473 t476).bind fun bt489 => (if t487 = bt489.2 then ((laws_sameDisk.f k t484 bt489.1).bind fun t494 => (laws_FnActs.j0 k t476 t479 t480 t487 (!t494) t473 t484)) else (laws_FnActs.j0 k t476 t479 t480 t487 true t473 t484))) = some r := H
 have A5 := AM A50
 clear A50
 replace H := bm H
 obtain ⟨⟨t489, t492⟩, A60, H⟩ := H
 replace H : (if t487 = t492 then ((laws_sameDisk.f k t484 t489).bind fun t494 => (laws_FnActs.j0 k t476 t479 t480 t487 (!t494) t473 t484)) else (laws_FnActs.j0 k t476 t479 t480 t487 true t473 t484)) = some r := H
 have A6 := AM A60
 clear A60
 have HC7 := AM H
 clear H
 go_enter Try.func8, Try.ntmps8
 go_upto_region 6 with (first | ((with_reducible refine gc 33 rfl ?_); refine gl 24 Try.func33 #[.slice A0 l0.length c0] ?_; (with_reducible refine (laws_big.calls _ _ l0 false _ ?side1 ?side2 A2.out).mono ?_); (case side1 => repeat (first | exact HR0.out | (with_reducible first | refine cA ?_ _ | refine cN ?_ _ | refine cD ?_))); (case side2 => exact HC0.out); rintro e w' ⟨rfl, ⟨nd, rfl⟩⟩; refine ⟨_, rfl, ?_⟩) | ((with_reducible refine gc 34 rfl ?_); refine gl 27 Try.func34 #[.slice A0 l0.length c0] ?_; (with_reducible refine (spec_DrawCutActs.calls k _ _ l0 t473 t476 t479 t480 _ ?side1 ?side2 A4.out).mono ?_); (case side1 => repeat (first | exact HR0.out | (with_reducible first | refine cA ?_ _ | refine cN ?_ _ | refine cD ?_))); (case side2 => exact HC0.out); rintro e w8 ⟨v474, v477, v481, rfl, ho0, ho1, ho2, hb⟩; refine ⟨_, rfl, ?_⟩; have HO475 := AM (Kd.R_lower ho0 (below_size (hB HB))); have HO478 := AM (Kd.R_lower ho1 (below_size (hB HB))); have HO482 := AM (Kd.R_lower ho2 (below_size (hB HB))); replace HB := bq HB hb; (try clear hb); (try clear ho0); (try clear ho1); (try clear ho2)) | ((with_reducible refine gd 3 rfl ?_); refine bx (N := 3) (cs := #[.slice none 0 0]) (t := 30) ?_; intro gb483 hg w9 hbox hb; replace HO475 := AM (Kd.R_below (by exact HO475.out) hb); replace HO478 := AM (Kd.R_below (by exact HO478.out) hb); replace HO482 := AM (Kd.R_below (by exact HO482.out) hb); have BK483 := AM (hbox); have GW483 := AM (bs hg HB); have GE483 := AM (bs hg HB); replace HB := bq HB hb; clear hb hbox hg; obtain ⟨Ao10, co10, eo10⟩ := Kd.R_slice HO475.out; subst eo10; have hcz11_0 := bv BK483 0 (.slice none 0 0); have hfz11_0 := bz BK483 0; obtain ⟨Ao12, co12, eo12⟩ := Kd.R_slice HO478.out; subst eo12) | ((with_reducible refine gc 25 rfl ?_); refine gl 35 Try.func25 #[.agg #[.slice Ao10 t473.length co10], .slice Ao12 t476.length co12] ?_; (with_reducible refine (impl_DoActs.calls k _ _ t473 _ _ t476 t484 t487 _ ?side1 ?side2 ?side3 ?side4 A5.out).mono ?_); (case side1 => refine (Kd.R_reads' (e := 67) (base := w.heap.size) (ok := fun k_ => True) (n := t473.length) (c := co10) ?_).2.2; exact (by exact (Kd.R_mono (Kd.R_far (p := ⟨gb483, 0, none⟩) (Kd.R_types HO475.out BK483.out (by decide)) (fun _ hk => hk.2) (.slice Ao10 t473.length co10)) (fun _ h_ => h_.1)))); (case side2 => exact (Kd.R_reads' HO475.out).2.1); (case side3 => refine (Kd.R_reads' (e := 41) (base := w.heap.size) (ok := fun k_ => True) (n := t476.length) (c := co12) ?_).2.2; exact (by exact (Kd.R_mono (Kd.R_far (p := ⟨gb483, 0, none⟩) (Kd.R_types HO478.out BK483.out (by decide)) (fun _ hk => hk.2) (.slice Ao10 t473.length co10)) (fun _ h_ => h_.1)))); (case side4 => exact (Kd.R_reads' HO478.out).2.1); rintro e w13 ⟨v485, rfl, ho0, hb⟩; refine ⟨_, rfl, ?_⟩; replace HO478 := AM (Kd.R_below (by exact (Kd.R_mono (Kd.R_far (p := ⟨gb483, 0, none⟩) (Kd.R_types HO478.out BK483.out (by decide)) (fun _ hk => hk.2) (.slice Ao10 t473.length co10)) (fun _ h_ => h_.1))) hb); replace HO482 := AM (Kd.R_below (by exact (Kd.R_mono (Kd.R_far (p := ⟨gb483, 0, none⟩) (Kd.R_types HO482.out BK483.out (by decide)) (fun _ hk => hk.2) (.slice Ao10 t473.length co10)) (fun _ h_ => h_.1))) hb); have HO486 := AM (Kd.R_lower (Kd.R_new' ho0 (Kd.R_lt (by exact (Kd.R_mono (Kd.R_far (p := ⟨gb483, 0, none⟩) (Kd.R_types HO475.out BK483.out (by decide)) (fun _ hk => hk.2) (.slice Ao10 t473.length co10)) (fun _ h_ => h_.1))))) (below_size (hS))); replace HO475 := AM (Kd.R_elder' (by exact (Kd.R_mono (Kd.R_far (p := ⟨gb483, 0, none⟩) (Kd.R_types HO475.out BK483.out (by decide)) (fun _ hk => hk.2) (.slice Ao10 t473.length co10)) (fun _ h_ => h_.1))) (Kd.R_base ho0) hb); replace BK483 := AM (blk_below (g := gb483) (o := .cells #[.slice Ao10 t473.length co10] 30 (0, 0)) (bp #[.slice none 0 0] 0) hb); replace HB := AM (below_step (hS) hb); (try clear hb); (try clear hk); (try clear ho0)) | ((with_reducible refine gd 7 rfl ?_); refine bx (N := 7) (cs := #[.slice none 0 0]) (t := 30) ?_; intro gb488 hg w14 hbox hb; replace HO475 := AM (Kd.R_below (by exact HO475.out) hb); replace HO478 := AM (Kd.R_below (by exact HO478.out) hb); replace HO482 := AM (Kd.R_below (by exact HO482.out) hb); replace HO486 := AM (Kd.R_below (by exact HO486.out) hb); have BK488 := AM (hbox); have GW488 := AM (bt hg hS); have GE488 := AM (bt hg hS); replace HB := AM (below_step (hS) hb); have NB483_488 := AM (nl hg (bk BK483)); have NB488_483 := AM (ng hg (bk BK483)); replace BK483 := bw BK483 hb; clear hb hbox hg; obtain ⟨Ao15, co15, eo15⟩ := Kd.R_slice HO486.out; subst eo15; have hnb16 := NB488_483.out; have hnc16 := NB483_488.out; have hcz17_0 := bv BK488 0 (.slice none 0 0); have hfz17_0 := bz BK488 0; have hcz18_0 := bv BK483 0 (.slice Ao10 t473.length co10); have hfz18_0 := bz BK483 0) | ((with_reducible refine gc 23 rfl ?_); refine gl 41 Try.func23 #[.agg #[.slice Ao10 t473.length co10], .slice Ao12 t476.length co12] ?_; (with_reducible refine (spec_DoActs.calls k _ _ t473 _ _ t476 t489 t492 _ ?side1 ?side2 ?side3 ?side4 A6.out).mono ?_); (case side1 => refine (Kd.R_reads' (e := 67) (base := w.heap.size) (ok := fun k_ => (True ∧ some k_ ≠ (.slice Ao15 t484.length co15 : Value).ownBlock)) (n := t473.length) (c := co10) ?_).2.2; exact (by exact (Kd.R_mono (Kd.R_far (p := ⟨gb488, 0, none⟩) (Kd.R_types HO475.out BK488.out (by decide)) (fun _ hk => hk.2) (.slice Ao15 t484.length co15)) (fun _ h_ => h_.1)))); (case side2 => exact (Kd.R_reads' HO475.out).2.1); (case side3 => refine (Kd.R_reads' (e := 41) (base := w.heap.size) (ok := fun k_ => True) (n := t476.length) (c := co12) ?_).2.2; exact (by exact (Kd.R_mono (Kd.R_far (p := ⟨gb488, 0, none⟩) (Kd.R_types HO478.out BK488.out (by decide)) (fun _ hk => hk.2) (.slice Ao15 t484.length co15)) (fun _ h_ => h_.1)))); (case side4 => exact (Kd.R_reads' HO478.out).2.1); rintro e w19 ⟨v490, rfl, ho0, hb⟩; refine ⟨_, rfl, ?_⟩; replace HO478 := AM (Kd.R_below (by exact (Kd.R_mono (Kd.R_far (p := ⟨gb488, 0, none⟩) (Kd.R_types HO478.out BK488.out (by decide)) (fun _ hk => hk.2) (.slice Ao15 t484.length co15)) (fun _ h_ => h_.1))) hb); replace HO482 := AM (Kd.R_below (by exact (Kd.R_mono (Kd.R_far (p := ⟨gb488, 0, none⟩) (Kd.R_types HO482.out BK488.out (by decide)) (fun _ hk => hk.2) (.slice Ao15 t484.length co15)) (fun _ h_ => h_.1))) hb); have HO491 := AM (Kd.R_lower (Kd.R_new' (Kd.R_new' ho0 (Kd.R_lt (by exact (Kd.R_mono (Kd.R_far (p := ⟨gb488, 0, none⟩) (Kd.R_types HO475.out BK488.out (by decide)) (fun _ hk => hk.2) (.slice Ao15 t484.length co15)) (fun _ h_ => h_.1))))) (Kd.R_lt (by exact (Kd.R_mono (Kd.R_far (p := ⟨gb488, 0, none⟩) (Kd.R_types HO486.out BK488.out (by decide)) (fun _ hk => hk.2) (.slice Ao15 t484.length co15)) (fun _ h_ => h_.1))))) (below_size (hS))); replace HO475 := AM (Kd.R_elder' (by exact (Kd.R_mono (Kd.R_far (p := ⟨gb488, 0, none⟩) (Kd.R_types HO475.out BK488.out (by decide)) (fun _ hk => hk.2) (.slice Ao15 t484.length co15)) (fun _ h_ => h_.1))) (Kd.R_base ho0) hb); replace HO486 := AM (Kd.R_elder' (by exact (Kd.R_mono (Kd.R_far (p := ⟨gb488, 0, none⟩) (Kd.R_types HO486.out BK488.out (by decide)) (fun _ hk => hk.2) (.slice Ao15 t484.length co15)) (fun _ h_ => h_.1))) (Kd.R_base ho0) hb); replace BK483 := AM (blk_below (g := gb483) (o := .cells #[.slice Ao10 t473.length co10] 30 (0, 0)) (be) hb); replace BK488 := AM (blk_below (g := gb488) (o := .cells #[.slice Ao15 t484.length co15] 30 (0, 0)) (bp #[.slice none 0 0] 0) hb); replace HB := AM (below_step (hS) hb); (try clear hb); (try clear hk); (try clear ho0)) | ((with_reducible refine gd 9 rfl ?_); refine bx (N := 9) (cs := #[.slice none 0 0]) (t := 30) ?_; intro gb493 hg w20 hbox hb; replace HO475 := AM (Kd.R_below (by exact HO475.out) hb); replace HO478 := AM (Kd.R_below (by exact HO478.out) hb); replace HO482 := AM (Kd.R_below (by exact HO482.out) hb); replace HO486 := AM (Kd.R_below (by exact HO486.out) hb); replace HO491 := AM (Kd.R_below (by exact HO491.out) hb); have BK493 := AM (hbox); have GW493 := AM (bt hg hS); have GE493 := AM (bt hg hS); replace HB := AM (below_step (hS) hb); have NB483_493 := AM (nl hg (bk BK483)); have NB493_483 := AM (ng hg (bk BK483)); replace BK483 := bw BK483 hb; have NB488_493 := AM (nl hg (bk BK488)); have NB493_488 := AM (ng hg (bk BK488)); replace BK488 := bw BK488 hb; clear hb hbox hg; obtain ⟨Ao21, co21, eo21⟩ := Kd.R_slice HO491.out; subst eo21; have hnb22 := NB493_483.out; have hnc22 := NB483_493.out; have hnb23 := NB493_488.out; have hnc23 := NB488_493.out; have hcz24_0 := bv BK493 0 (.slice none 0 0); have hfz24_0 := bz BK493 0))
 (try simp only [Act.put, qT, q0, qS])
 go_cut [52] (fun v52 wc => ∃ (kq : Nat) (x52_6 : Bool), v52 = .bool x52_6 ∧ Aside0 (laws_FnActs.j0 kq t476 t479 t480 t487 x52_6 t473 t484 = some r) ∧ Aside0 (kq ≤ k) ∧ Aside0 (Kd.R k41 41 wc w.heap.size (fun _ => True) (.slice Ao12 t476.length co12) t476) ∧ Aside0 (Kd.R (Kd.int .i64) 3 wc w.heap.size (fun _ => True) v481 t480) ∧ Aside0 (Kd.R k67 67 wc w.heap.size (fun k_ => some k_ ≠ ((.slice Ao15 t484.length co15) : Value).ownBlock ∧ some k_ ≠ ((.slice Ao21 t489.length co21) : Value).ownBlock) (.slice Ao10 t473.length co10) t473) ∧ Aside0 (Kd.R k67 67 wc w.heap.size (fun k_ => some k_ ≠ ((.slice Ao10 t473.length co10) : Value).ownBlock ∧ some k_ ≠ ((.slice Ao21 t489.length co21) : Value).ownBlock) (.slice Ao15 t484.length co15) t484) ∧ Aside0 (Kd.R k67 67 wc w.heap.size (fun k_ => some k_ ≠ ((.slice Ao10 t473.length co10) : Value).ownBlock ∧ some k_ ≠ ((.slice Ao15 t484.length co15) : Value).ownBlock) (.slice Ao21 t489.length co21) t489) ∧ Aside0 (wc.heap[gb483]? = some (.cells #[(.slice Ao10 t473.length co10)] 30 (0, 0))) ∧ Aside0 (wc.heap[gb488]? = some (.cells #[(.slice Ao15 t484.length co15)] 30 (0, 0))) ∧ Aside0 (wc.heap[gb493]? = some (.cells #[(.slice Ao21 t489.length co21)] 30 (0, 0))) ∧ Aside0 (Below w.heap.size w wc))
 case first =>
  have H := HC7.out
  clear HC7
  by_cases c25 : t487 = t492
  ·rw [if_pos c25] at H
   have c25b0 : (t487 == t492) = true := beq_iff_eq.mpr c25
   have c25b1 : (t487 != t492) = false := bne_eq_false_iff_eq.mpr c25
   clear c25
   (first | rw [c25b0] | (simp only [i64_w, i32_w]; rw [c25b0]) | rw [c25b1] | skip)
   replace H := bm H
   obtain ⟨t494, A260, H⟩ := H
   replace H : (laws_FnActs.j0 k t476 t479 t480 t487 (!t494) t473 t484) = some r := H
   have A26 := AM A260
   clear A260
   have H' := AM H
   clear H
   have hnb27 := NB488_483.out
   have hnc27 := NB483_488.out
   have hnb28 := NB488_493.out
   have hnc28 := NB493_488.out
   have hcz29_0 := bv BK488 0 (.slice Ao15 t484.length co15)
   have hfz29_0 := bz BK488 0
   have hnb30 := NB493_483.out
   have hnc30 := NB483_493.out
   have hcz31_0 := bv BK493 0 (.slice none 0 0)
   have hfz31_0 := bz BK493 0
   go_wp2_with (first | (go_at_call 35; (with_reducible refine (laws_sameDisk.calls k _ _ t484 _ _ t489 t494 _ ?side1 ?side2 ?side3 ?side4 A26.out).mono ?_); (case side1 => refine (Kd.R_reads' (e := 67) (base := w.heap.size) (ok := fun k_ => ((True ∧ some k_ ≠ (.slice Ao10 t473.length co10 : Value).ownBlock) ∧ some k_ ≠ (.slice Ao21 t489.length co21 : Value).ownBlock)) (n := t484.length) (c := co15) ?_).2.2; exact (by exact (Kd.R_mono (Kd.R_far (p := ⟨gb493, 0, none⟩) (Kd.R_types HO486.out BK493.out (by decide)) (fun _ hk => hk.2) (.slice Ao21 t489.length co21)) (fun _ h_ => h_.1)))); (case side2 => exact (Kd.R_reads' HO486.out).2.1); (case side3 => refine (Kd.R_reads' (e := 67) (base := w.heap.size) (ok := fun k_ => ((True ∧ some k_ ≠ (.slice Ao10 t473.length co10 : Value).ownBlock) ∧ some k_ ≠ (.slice Ao15 t484.length co15 : Value).ownBlock)) (n := t489.length) (c := co21) ?_).2.2; exact (by exact (Kd.R_mono (Kd.R_far (p := ⟨gb493, 0, none⟩) (Kd.R_types HO491.out BK493.out (by decide)) (fun _ hk => hk.2) (.slice Ao21 t489.length co21)) (fun _ h_ => h_.1)))); (case side4 => exact (Kd.R_reads' HO491.out).2.1); rintro e w32 ⟨rfl, hb⟩; have n0_ := AM (Kd.R_below (by exact (Kd.R_mono (Kd.R_far (p := ⟨gb493, 0, none⟩) (Kd.R_types HO475.out BK493.out (by decide)) (fun _ hk => hk.2) (.slice Ao21 t489.length co21)) (fun _ h_ => h_.1))) hb); have n1_ := AM (Kd.R_below (by exact (Kd.R_mono (Kd.R_far (p := ⟨gb493, 0, none⟩) (Kd.R_types HO478.out BK493.out (by decide)) (fun _ hk => hk.2) (.slice Ao21 t489.length co21)) (fun _ h_ => h_.1))) hb); have n2_ := AM (Kd.R_below (by exact (Kd.R_mono (Kd.R_far (p := ⟨gb493, 0, none⟩) (Kd.R_types HO482.out BK493.out (by decide)) (fun _ hk => hk.2) (.slice Ao21 t489.length co21)) (fun _ h_ => h_.1))) hb); have n3_ := AM (Kd.R_below (by exact (Kd.R_mono (Kd.R_far (p := ⟨gb493, 0, none⟩) (Kd.R_types HO486.out BK493.out (by decide)) (fun _ hk => hk.2) (.slice Ao21 t489.length co21)) (fun _ h_ => h_.1))) hb); have n4_ := AM (Kd.R_below (by exact (Kd.R_mono (Kd.R_far (p := ⟨gb493, 0, none⟩) (Kd.R_types HO491.out BK493.out (by decide)) (fun _ hk => hk.2) (.slice Ao21 t489.length co21)) (fun _ h_ => h_.1))) hb); have n5_ := AM (blk_below (g := gb483) (o := .cells #[.slice Ao10 t473.length co10] 30 (0, 0)) (be) hb); have n6_ := AM (blk_below (g := gb488) (o := .cells #[.slice Ao15 t484.length co15] 30 (0, 0)) (be) hb); have n7_ := AM (blk_below (g := gb493) (o := .cells #[.slice Ao21 t489.length co21] 30 (0, 0)) (bp #[.slice none 0 0] 0) hb); have n8_ := AM (below_step (hS) hb); clear HO475; clear HO478; clear HO482; clear HO486; clear HO491; clear BK483; clear BK488; clear BK493; clear HB; have HO475 := n0_; have HO478 := n1_; have HO482 := n2_; have HO486 := n3_; have HO491 := n4_; have BK483 := n5_; have BK488 := n6_; have BK493 := n7_; have HB := n8_; clear n0_ n1_ n2_ n3_ n4_ n5_ n6_ n7_ n8_; (try clear hb); (try clear hk)))
   go_meet
   case rel => exact ⟨_, (!t494), sf, H', ⟨by first | omega | exact Nat.le_refl _⟩, ⟨by exact HO478.out⟩, ⟨by exact HO482.out⟩, ⟨by exact Kd.R_mono HO475.out (fun _ hk => ⟨hk.1.2, hk.2⟩)⟩, ⟨by exact Kd.R_mono HO486.out (fun _ hk => ⟨hk.1.2, hk.2⟩)⟩, ⟨by exact Kd.R_mono HO491.out (fun _ hk => ⟨hk.1.2, hk.2⟩)⟩, ⟨bk BK483⟩, ⟨bk BK488⟩, ⟨bk BK493⟩, ⟨hS⟩⟩
  rw [if_neg c25] at H
  have c25b0 : (t487 == t492) = false := beq_eq_false_iff_ne.mpr c25
  have c25b1 : (t487 != t492) = true := bne_iff_ne.mpr c25
  (first | rw [c25b0] | (simp only [i64_w, i32_w]; rw [c25b0]) | rw [c25b1] | skip)
  have H' := AM H
  clear H
  go_wp2
  go_meet
  case rel => exact ⟨_, (true), sf, H', ⟨by first | omega | exact Nat.le_refl _⟩, ⟨by exact Kd.R_mono (Kd.R_far (p := ⟨gb493, 0, none⟩) (Kd.R_types HO478.out BK493.out (by decide)) (fun _ hk => hk.2) (.slice Ao21 t489.length co21)) (fun _ hk => trivial)⟩, ⟨by exact Kd.R_mono (Kd.R_far (p := ⟨gb493, 0, none⟩) (Kd.R_types HO482.out BK493.out (by decide)) (fun _ hk => hk.2) (.slice Ao21 t489.length co21)) (fun _ hk => trivial)⟩, ⟨by exact Kd.R_mono (Kd.R_far (p := ⟨gb493, 0, none⟩) (Kd.R_types HO475.out BK493.out (by decide)) (fun _ hk => hk.2) (.slice Ao21 t489.length co21)) (fun _ hk => ⟨hk.1.1.2, hk.1.2⟩)⟩, ⟨by exact Kd.R_mono (Kd.R_far (p := ⟨gb493, 0, none⟩) (Kd.R_types HO486.out BK493.out (by decide)) (fun _ hk => hk.2) (.slice Ao21 t489.length co21)) (fun _ hk => ⟨hk.1.1.2, hk.1.2⟩)⟩, ⟨by exact Kd.R_mono (Kd.R_far (p := ⟨gb493, 0, none⟩) (Kd.R_types HO491.out BK493.out (by decide)) (fun _ hk => hk.2) (.slice Ao21 t489.length co21)) (fun _ hk => ⟨hk.1.1.2, hk.1.2⟩)⟩, ⟨be⟩, ⟨be⟩, ⟨bp #[.slice none 0 0] 0⟩, ⟨hS⟩⟩
 case rest =>
  clear HC7
  obtain ⟨kq, x52_6, rfl, HA, HJ6, HO_4, HO_6, HO_484000, HO_489000, HO_494000, BK483, BK488, BK493, HB⟩ := hcut
  cases kq with
  | zero => exact absurd HA.out (by simp [laws_FnActs.j0])
  | succ kj6 =>
   have H := HA.out
   clear HA
   simp only [laws_FnActs.j0] at H
   by_cases c33 : x52_6 = true
   ·subst c33
    have H1 : (some false) = some r := by rw [if_pos rfl] at H; exact H
    clear H
    have H := H1
    clear H1
    exact absurd ((Option.some.inj H).trans hT.out) (by decide)
   replace c33 := Bool.eq_false_iff.mpr c33
   subst c33
   have H1 : (laws_FnActs.l0 kj6 t476 t479 t480 t487 0 t473 t484 t473) = some r := by rw [if_neg (show ¬ (false = true) by decide)] at H; exact H
   clear H
   have H := H1
   clear H1
   have H' := AM H
   clear H
   have hnb34 := NB483_488.out
   have hnc34 := NB488_483.out
   have hnb35 := NB483_493.out
   have hnc35 := NB493_483.out
   have hcz36_0 := bv BK483 0 (.slice Ao10 t473.length co10)
   have hfz36_0 := bz BK483 0
   go_wp2_with (first | ((with_reducible refine gd 11 rfl ?_); refine bx (N := 11) (cs := #[.slice none 0 0]) (t := 30) ?_; intro gb495 hg w37 hbox hb; replace HO_4 := AM (Kd.R_below (by exact HO_4.out) hb); replace HO_6 := AM (Kd.R_below (by exact HO_6.out) hb); replace HO_484000 := AM (Kd.R_below (by exact HO_484000.out) hb); replace HO_489000 := AM (Kd.R_below (by exact HO_489000.out) hb); replace HO_494000 := AM (Kd.R_below (by exact HO_494000.out) hb); have BK495 := AM (hbox); have GW495 := AM (bt hg hS); have GE495 := AM (bt hg hS); replace HB := AM (below_step (hS) hb); have NB483_495 := AM (nl hg (bk BK483)); have NB495_483 := AM (ng hg (bk BK483)); replace BK483 := bw BK483 hb; have NB488_495 := AM (nl hg (bk BK488)); have NB495_488 := AM (ng hg (bk BK488)); replace BK488 := bw BK488 hb; have NB493_495 := AM (nl hg (bk BK493)); have NB495_493 := AM (ng hg (bk BK493)); replace BK493 := bw BK493 hb; clear hb hbox hg; have hnb38 := NB495_483.out; have hnc38 := NB483_495.out; have hnb39 := NB495_488.out; have hnc39 := NB488_495.out; have hnb40 := NB495_493.out; have hnc40 := NB493_495.out; have hcz41_0 := bv BK495 0 (.slice none 0 0); have hfz41_0 := bz BK495 0))
   go_loopg [12] kj6 (fun kq v12 w' => ∃ (x12_2 : Int) (x496000_2 : List (S67)) (u496000 : Value), v12 = .int .i64 x12_2 ∧ Aside0 (laws_FnActs.l0 kq t476 t479 t480 t487 x12_2 t473 t484 x496000_2 = some r) ∧ Aside0 (kq ≤ kj6) ∧ Aside0 (Kd.R k41 41 w' w.heap.size (fun _ => True) (.slice Ao12 t476.length co12) t476) ∧ Aside0 (Kd.R (Kd.int .i64) 3 w' w.heap.size (fun _ => True) v481 t480) ∧ Aside0 (Kd.R k67 67 w' w.heap.size (fun k_ => some k_ ≠ ((.slice Ao15 t484.length co15) : Value).ownBlock ∧ some k_ ≠ ((.slice Ao21 t489.length co21) : Value).ownBlock) (.slice Ao10 t473.length co10) t473) ∧ Aside0 (Kd.R k67 67 w' w.heap.size (fun k_ => some k_ ≠ ((.slice Ao10 t473.length co10) : Value).ownBlock ∧ some k_ ≠ ((.slice Ao21 t489.length co21) : Value).ownBlock ∧ some k_ ≠ (u496000 : Value).ownBlock) (.slice Ao15 t484.length co15) t484) ∧ Aside0 (Kd.R k67 67 w' w.heap.size (fun k_ => some k_ ≠ ((.slice Ao10 t473.length co10) : Value).ownBlock ∧ some k_ ≠ ((.slice Ao15 t484.length co15) : Value).ownBlock ∧ some k_ ≠ (u496000 : Value).ownBlock) (.slice Ao21 t489.length co21) t489) ∧ Aside0 (Kd.R k67 67 w' w.heap.size (fun k_ => some k_ ≠ ((.slice Ao15 t484.length co15) : Value).ownBlock ∧ some k_ ≠ ((.slice Ao21 t489.length co21) : Value).ownBlock) u496000 x496000_2) ∧ Aside0 (w'.heap[gb483]? = some (.cells #[(.slice Ao10 t473.length co10)] 30 (0, 0))) ∧ Aside0 (w'.heap[gb488]? = some (.cells #[(.slice Ao15 t484.length co15)] 30 (0, 0))) ∧ Aside0 (w'.heap[gb493]? = some (.cells #[(.slice Ao21 t489.length co21)] 30 (0, 0))) ∧ Aside0 (w'.heap[gb495]? = some (.cells #[u496000] 30 (0, 0))) ∧ Aside0 (Below w.heap.size w w'))
   case atStart => exact ⟨(0), (t473), (.slice Ao10 t473.length co10), sf, H', ⟨Nat.le_refl _⟩, ⟨by exact Kd.R_mono (Kd.R_far (p := ⟨gb495, 0, none⟩) (Kd.R_types HO_4.out BK495.out (by decide)) (fun _ hk => hk.2) (.slice Ao10 t473.length co10)) (fun _ hk => trivial)⟩, ⟨by exact Kd.R_mono (Kd.R_far (p := ⟨gb495, 0, none⟩) (Kd.R_types HO_6.out BK495.out (by decide)) (fun _ hk => hk.2) (.slice Ao10 t473.length co10)) (fun _ hk => trivial)⟩, ⟨by exact Kd.R_mono (Kd.R_far (p := ⟨gb495, 0, none⟩) (Kd.R_types HO_484000.out BK495.out (by decide)) (fun _ hk => hk.2) (.slice Ao10 t473.length co10)) (fun _ hk => ⟨hk.1.1, hk.1.2⟩)⟩, ⟨by exact Kd.R_mono (Kd.R_far (p := ⟨gb495, 0, none⟩) (Kd.R_types HO_489000.out BK495.out (by decide)) (fun _ hk => hk.2) (.slice Ao10 t473.length co10)) (fun _ hk => ⟨hk.1.1, ⟨hk.1.2, hk.1.1⟩⟩)⟩, ⟨by exact Kd.R_mono (Kd.R_far (p := ⟨gb495, 0, none⟩) (Kd.R_types HO_494000.out BK495.out (by decide)) (fun _ hk => hk.2) (.slice Ao10 t473.length co10)) (fun _ hk => ⟨hk.1.1, ⟨hk.1.2, hk.1.1⟩⟩)⟩, ⟨by exact Kd.R_mono (Kd.R_far (p := ⟨gb495, 0, none⟩) (Kd.R_types HO_484000.out BK495.out (by decide)) (fun _ hk => hk.2) (.slice Ao10 t473.length co10)) (fun _ hk => ⟨hk.1.1, hk.1.2⟩)⟩, ⟨be⟩, ⟨be⟩, ⟨be⟩, ⟨bp #[.slice none 0 0] 0⟩, ⟨hS⟩⟩
   clear H'
   obtain ⟨x12_2, x496000_2, u496000, rfl, HA, HK2, HO_4, HO_6, HO_484000, HO_489000, HO_494000, HO_496000, BK483, BK488, BK493, BK495, HB⟩ := hrel
   cases gk with
   | zero => exact absurd HA.out (by simp [laws_FnActs.l0])
   | succ k2 =>
    have H := HA.out
    clear HA
    simp only [laws_FnActs.l0] at H
    by_cases c42 : x12_2 < t487
    ·rw [if_pos c42] at H
     have c42b0 : decide (x12_2 < t487) = true := decide_eq_true c42
     clear c42
     by_cases c43 : 0 ≤ x12_2
     ·rw [if_pos c43] at H
      have c43b0 : decide (0 ≤ x12_2) = true := decide_eq_true c43
      clear c43
      by_cases c44 : x12_2 < (t476.length : Int)
      ·rw [if_pos c44] at H
       have c44b0 : decide (x12_2 < (t476.length : Int)) = true := decide_eq_true c44
       clear c44
       replace H := bm H
       obtain ⟨⟨t497, t500⟩, A450, H⟩ := H
       replace H : (if t500 = true then ((impl_FileAt.f x496000_2 ((rd_T41 t476 x12_2).f1)).bind fun bt503 => ((impl_FileAt.f t497 ((rd_T41 t476 x12_2).f1)).bind fun bt506 => (if ((rd_T41 t476 x12_2).f0) = 1 then (if bt506.2 = true then (if bt503.1.size + ((rd_T41 t476 x12_2).f2).size ≤ 9223372036854775807 then (if bt506.1.toList = (bt503.1 ++ ((rd_T41 t476 x12_2).f2)).toList then (if ((rd_T41 t476 x12_2).f0) = 4 then (some false) else (laws_FnActs.l0 k2 t476 t479 t480 t487 (wrap64 (x12_2 + 1)) t473 t484 t497)) else (some false)) else (none)) else (some false)) else (if ((rd_T41 t476 x12_2).f0) = 4 then (if bt506.2 = true then (some false) else (laws_FnActs.l0 k2 t476 t479 t480 t487 (wrap64 (x12_2 + 1)) t473 t484 t497)) else (laws_FnActs.l0 k2 t476 t479 t480 t487 (wrap64 (x12_2 + 1)) t473 t484 t497))))) else (some false)) = some r := H
       have A45 := AM A450
       clear A450
       by_cases c46 : t500 = true
       ·subst c46
        have H1 : ((impl_FileAt.f x496000_2 ((rd_T41 t476 x12_2).f1)).bind fun bt503 => ((impl_FileAt.f t497 ((rd_T41 t476 x12_2).f1)).bind fun bt506 => (if ((rd_T41 t476 x12_2).f0) = 1 then (if bt506.2 = true then (if bt503.1.size + ((rd_T41 t476 x12_2).f2).size ≤ 9223372036854775807 then (if bt506.1.toList = (bt503.1 ++ ((rd_T41 t476 x12_2).f2)).toList then (if ((rd_T41 t476 x12_2).f0) = 4 then (some false) else (laws_FnActs.l0 k2 t476 t479 t480 t487 (wrap64 (x12_2 + 1)) t473 t484 t497)) else (some false)) else (none)) else (some false)) else (if ((rd_T41 t476 x12_2).f0) = 4 then (if bt506.2 = true then (some false) else (laws_FnActs.l0 k2 t476 t479 t480 t487 (wrap64 (x12_2 + 1)) t473 t484 t497)) else (laws_FnActs.l0 k2 t476 t479 t480 t487 (wrap64 (x12_2 + 1)) t473 t484 t497))))) = some r := by rw [if_pos rfl] at H; exact H
        clear H
        have H := H1
        clear H1
        replace H := bm H
        obtain ⟨⟨t503, t504⟩, A470, H⟩ := H
        replace H : ((impl_FileAt.f t497 ((rd_T41 t476 x12_2).f1)).bind fun bt506 => (if ((rd_T41 t476 x12_2).f0) = 1 then (if bt506.2 = true then (if t503.size + ((rd_T41 t476 x12_2).f2).size ≤ 9223372036854775807 then (if bt506.1.toList = (t503 ++ ((rd_T41 t476 x12_2).f2)).toList then (if ((rd_T41 t476 x12_2).f0) = 4 then (some false) else (laws_FnActs.l0 k2 t476 t479 t480 t487 (wrap64 (x12_2 + 1)) t473 t484 t497)) else (some false)) else (none)) else (some false)) else (if ((rd_T41 t476 x12_2).f0) = 4 then (if bt506.2 = true then (some false) else (laws_FnActs.l0 k2 t476 t479 t480 t487 (wrap64 (x12_2 + 1)) t473 t484 t497)) else (laws_FnActs.l0 k2 t476 t479 t480 t487 (wrap64 (x12_2 + 1)) t473 t484 t497)))) = some r := H
        have A47 := AM A470
        clear A470
        replace H := bm H
        obtain ⟨⟨t506, t507⟩, A480, H⟩ := H
        replace H : (if ((rd_T41 t476 x12_2).f0) = 1 then (if t507 = true then (if t503.size + ((rd_T41 t476 x12_2).f2).size ≤ 9223372036854775807 then (if t506.toList = (t503 ++ ((rd_T41 t476 x12_2).f2)).toList then (if ((rd_T41 t476 x12_2).f0) = 4 then (some false) else (laws_FnActs.l0 k2 t476 t479 t480 t487 (wrap64 (x12_2 + 1)) t473 t484 t497)) else (some false)) else (none)) else (some false)) else (if ((rd_T41 t476 x12_2).f0) = 4 then (if t507 = true then (some false) else (laws_FnActs.l0 k2 t476 t479 t480 t487 (wrap64 (x12_2 + 1)) t473 t484 t497)) else (laws_FnActs.l0 k2 t476 t479 t480 t487 (wrap64 (x12_2 + 1)) t473 t484 t497))) = some r := H
        have A48 := AM A480
        clear A480
        have HD : Aside0 ((laws_FnActs.l0 k2 t476 t479 t480 t487 (wrap64 (x12_2 + 1)) t473 t484 t497) = some r ∧ ((((rd_T41 t476 x12_2).f0) = 1 ∧ ¬ ((rd_T41 t476 x12_2).f0) = 4 ∧ t507 = true ∧ t503.size + ((rd_T41 t476 x12_2).f2).size ≤ 9223372036854775807 ∧ t506.toList = (t503 ++ ((rd_T41 t476 x12_2).f2)).toList) ∨ (¬ ((rd_T41 t476 x12_2).f0) = 1 ∧ ((rd_T41 t476 x12_2).f0) = 4 ∧ t507 = false) ∨ (¬ ((rd_T41 t476 x12_2).f0) = 1 ∧ ¬ ((rd_T41 t476 x12_2).f0) = 4))) := ⟨by
          by_cases c1 : ((rd_T41 t476 x12_2).f0) = 1
          · rw [if_pos c1] at H
            by_cases c2 : t507 = true
            · rw [if_pos c2] at H
              by_cases c3 : t503.size + ((rd_T41 t476 x12_2).f2).size ≤ 9223372036854775807
              · rw [if_pos c3] at H
                by_cases c5 : t506.toList = (t503 ++ ((rd_T41 t476 x12_2).f2)).toList
                · rw [if_pos c5, if_neg (by omega)] at H
                  exact ⟨H, .inl ⟨c1, by omega, c2, c3, c5⟩⟩
                · rw [if_neg c5] at H
                  exact absurd ((Option.some.inj H).trans hT.out) (by decide)
              · rw [if_neg c3] at H
                exact absurd H (by simp)
            · rw [if_neg c2] at H
              exact absurd ((Option.some.inj H).trans hT.out) (by decide)
          · rw [if_neg c1] at H
            by_cases c4 : ((rd_T41 t476 x12_2).f0) = 4
            · rw [if_pos c4] at H
              by_cases c2 : t507 = true
              · rw [if_pos c2] at H
                exact absurd ((Option.some.inj H).trans hT.out) (by decide)
              · rw [if_neg c2] at H
                exact ⟨H, .inr (.inl ⟨c1, c4, by simpa using c2⟩)⟩
            · rw [if_neg c4] at H
              exact ⟨H, .inr (.inr ⟨c1, c4⟩)⟩⟩
        have H' := AM HD.out.1
        clear H
        obtain ⟨Ao98, co98, eo98⟩ := Kd.R_slice HO_496000.out
        subst eo98
        try go_wp2
        replace HO_4 := AM (Kd.R_drew HO_4.out)
        replace HO_6 := AM (Kd.R_drew HO_6.out)
        replace HO_484000 := AM (Kd.R_drew HO_484000.out)
        replace HO_489000 := AM (Kd.R_drew HO_489000.out)
        replace HO_494000 := AM (Kd.R_drew HO_494000.out)
        replace HO_496000 := AM (Kd.R_drew HO_496000.out)
        replace BK483 := AM (blk_drew BK483.out)
        replace BK488 := AM (blk_drew BK488.out)
        replace BK493 := AM (blk_drew BK493.out)
        replace BK495 := AM (blk_drew BK495.out)
        replace HB := AM (below_drew1 HB.out)
        have p496 : 0 ≤ (x12_2 : Int) := od
        have q496 : x12_2 < (t476.length : Int) := od
        obtain ⟨ad496, e496, hx496_0, hx496_1, hx496_2, hx496_3⟩ := at_T41 (Kd.R_reads' HO_4.out).2.2 x12_2 p496 q496
        cases e496
        replace p496 := eq_true p496
        replace q496 := eq_true q496
        refine sr 12 (fun w' => w'.cell? ⟨gb495, 0, none⟩ = some (.slice Ao98 x496000_2.length co98) ∧ w'.cell? (ad496.add ((x12_2).toNat * 4)) = some (.int .i64 ((rd_T41 t476 x12_2).f0)) ∧ w'.cell? ⟨(ad496.add ((x12_2).toNat * 4)).block, (ad496.add ((x12_2).toNat * 4)).off + 1, none⟩ = some (.string ((rd_T41 t476 x12_2).f1)) ∧ w'.cell? ⟨(ad496.add ((x12_2).toNat * 4)).block, (ad496.add ((x12_2).toNat * 4)).off + 2, none⟩ = some (.string ((rd_T41 t476 x12_2).f2)) ∧ w'.cell? ⟨(ad496.add ((x12_2).toNat * 4)).block, (ad496.add ((x12_2).toNat * 4)).off + 3, none⟩ = some (.string ((rd_T41 t476 x12_2).f3))) [] ⟨bc BK495 0, hx496_0, hx496_1, hx496_2, hx496_3⟩ (fun hHeld => ?_); refine with_tabW laws_FnActs.tab12 laws_FnActs.bits12 (fun HT_ HW_ => ?_)
        generalize wr.drew = w99 at HO_4 HO_6 HO_484000 HO_489000 HO_494000 HO_496000 BK483 BK488 BK493 BK495 HB hx496_0 hx496_1 hx496_2 hx496_3 hHeld ⊢
        refine pt 1 61 ?_; refine pt 2 62 ?_; refine pt 3 63 ?_; refine tt 0 60 ?_; refine tt 4 64 ?_
        refine join_ (σ := Value × Nat) 2 #[true, true, true, true, true, true, true, true, true, true, false, false] (fun s_ => [(65, .tuple #[.agg #[s_.1], .bool true]), (13, .pointer (some ⟨s_.2, 0, none⟩)), (59, .tuple #[.agg #[s_.1], .bool true]), (66, .agg #[s_.1]), (67, .bool true)]) (fun s_ w' => (w'.cell? ⟨gb495, 0, none⟩ = some (.slice Ao98 x496000_2.length co98) ∧ w'.cell? (ad496.add ((x12_2).toNat * 4)) = some (.int .i64 ((rd_T41 t476 x12_2).f0)) ∧ w'.cell? ⟨(ad496.add ((x12_2).toNat * 4)).block, (ad496.add ((x12_2).toNat * 4)).off + 1, none⟩ = some (.string ((rd_T41 t476 x12_2).f1)) ∧ w'.cell? ⟨(ad496.add ((x12_2).toNat * 4)).block, (ad496.add ((x12_2).toNat * 4)).off + 2, none⟩ = some (.string ((rd_T41 t476 x12_2).f2)) ∧ w'.cell? ⟨(ad496.add ((x12_2).toNat * 4)).block, (ad496.add ((x12_2).toNat * 4)).off + 3, none⟩ = some (.string ((rd_T41 t476 x12_2).f3))) ∧ (Kd.R k67 67 w' w.heap.size (fun k_ => some k_ ≠ (.slice Ao10 t473.length co10 : Value).ownBlock ∧ some k_ ≠ (.slice Ao15 t484.length co15 : Value).ownBlock ∧ some k_ ≠ (.slice Ao21 t489.length co21 : Value).ownBlock ∧ some k_ ≠ (.slice Ao98 x496000_2.length co98 : Value).ownBlock) s_.1 t497) ∧ (Kd.R k41 41 w' w.heap.size (fun _ => True) (.slice (some ad496) t476.length co12) t476) ∧ (Kd.R k67 67 w' w.heap.size (fun k_ => some k_ ≠ (s_.1 : Value).ownBlock ∧ some k_ ≠ (.slice Ao15 t484.length co15 : Value).ownBlock ∧ some k_ ≠ (.slice Ao21 t489.length co21 : Value).ownBlock) (.slice Ao10 t473.length co10) t473) ∧ (Kd.R k67 67 w' w.heap.size (fun k_ => some k_ ≠ (s_.1 : Value).ownBlock ∧ some k_ ≠ (.slice Ao10 t473.length co10 : Value).ownBlock ∧ some k_ ≠ (.slice Ao21 t489.length co21 : Value).ownBlock ∧ some k_ ≠ (.slice Ao98 x496000_2.length co98 : Value).ownBlock) (.slice Ao15 t484.length co15) t484) ∧ (Kd.R k67 67 w' w.heap.size (fun k_ => some k_ ≠ (s_.1 : Value).ownBlock ∧ some k_ ≠ (.slice Ao10 t473.length co10 : Value).ownBlock ∧ some k_ ≠ (.slice Ao15 t484.length co15 : Value).ownBlock ∧ some k_ ≠ (.slice Ao98 x496000_2.length co98 : Value).ownBlock) (.slice Ao21 t489.length co21) t489) ∧ (Kd.R k67 67 w' w.heap.size (fun k_ => some k_ ≠ (s_.1 : Value).ownBlock ∧ some k_ ≠ (.slice Ao15 t484.length co15 : Value).ownBlock ∧ some k_ ≠ (.slice Ao21 t489.length co21 : Value).ownBlock) (.slice Ao98 x496000_2.length co98) x496000_2) ∧ (Kd.R (Kd.int .i64) 3 w' w.heap.size (fun _ => True) v481 t480) ∧ (w'.heap[gb483]? = some (.cells #[.slice Ao10 t473.length co10] 30 (0, 0))) ∧ (w'.heap[gb488]? = some (.cells #[.slice Ao15 t484.length co15] 30 (0, 0))) ∧ (w'.heap[gb493]? = some (.cells #[.slice Ao21 t489.length co21] 30 (0, 0))) ∧ (w'.heap[gb495]? = some (.cells #[.slice Ao98 x496000_2.length co98] 30 (0, 0))) ∧ (w'.heap[s_.2]? = some (.cells #[.slice none 0 0] 30 (0, 0))) ∧ (w.heap.size ≤ s_.2) ∧ (w.heap.size ≤ s_.2) ∧ (gb483 ≠ s_.2) ∧ (s_.2 ≠ gb483) ∧ (gb488 ≠ s_.2) ∧ (s_.2 ≠ gb488) ∧ (gb493 ≠ s_.2) ∧ (s_.2 ≠ gb493) ∧ (gb495 ≠ s_.2) ∧ (s_.2 ≠ gb495) ∧ (Below w.heap.size w w')) ?_ ?_
        rotate_left
        ·intro hCont
         refine two_ (i := 5) (j := 9) (Ni := some 65) (Nj := some 13) #[true, true, true, true, true, true, false, false, false, false, false, false] #[true, true, true, true, true, false, false, false, false, true, false, false] rfl rfl rfl rfl (two_of HT_.out (by kernel_rfl)) (by decide) (by decide) (fun K hK => ?_) (fun K hK => ?_)
         ·skip
          refine goes_ Try.func19 (by kernel_rfl) rfl #[.agg #[.slice Ao98 x496000_2.length co98], .agg #[.int .i64 ((rd_T41 t476 x12_2).f0), .string ((rd_T41 t476 x12_2).f1), .string ((rd_T41 t476 x12_2).f2), .string ((rd_T41 t476 x12_2).f3)]] (by rfl) rfl rfl am ?_
          with_reducible refine (impl_DoAct.calls k2 _ _ x496000_2 ((rd_T41 t476 x12_2).f0) ((rd_T41 t476 x12_2).f1) ((rd_T41 t476 x12_2).f2) ((rd_T41 t476 x12_2).f3) t497 true _ ?side1 ?side2 A45.out).mono ?_
          (case side1 => repeat (first | exact (Kd.R_reads' HO_496000.out).2.2 | (with_reducible first | refine cA ?_ _ | refine cN ?_ _ | refine cD ?_)))
          (case side2 => exact (Kd.R_reads' HO_496000.out).2.1)
          rintro e w100 ⟨v498, rfl, ho0, hb⟩
          have HS1_ := (hb.cell (World.block_lt_of_cell? _ _ (hHeld.2.1))).trans (hHeld.2.1)
          have HS2_ := (hb.cell (World.block_lt_of_cell? _ _ (hHeld.2.2.1))).trans (hHeld.2.2.1)
          have HS3_ := (hb.cell (World.block_lt_of_cell? _ _ (hHeld.2.2.2.1))).trans (hHeld.2.2.2.1)
          have HS4_ := (hb.cell (World.block_lt_of_cell? _ _ (hHeld.2.2.2.2))).trans (hHeld.2.2.2.2)
          refine ⟨_, rfl, ?_⟩
          replace HO_4 := AM (Kd.R_below (by exact HO_4.out) hb)
          replace HO_6 := AM (Kd.R_below (by exact HO_6.out) hb)
          have HO499 := AM (Kd.R_lower (Kd.R_new' (Kd.R_new' (Kd.R_new' (Kd.R_new' ho0 (Kd.R_lt (by exact HO_484000.out))) (Kd.R_lt (by exact HO_489000.out))) (Kd.R_lt (by exact HO_494000.out))) (Kd.R_lt (by exact HO_496000.out))) (below_size (hS)))
          replace HO_484000 := AM (Kd.R_elder' (by exact HO_484000.out) (Kd.R_base ho0) hb)
          replace HO_489000 := AM (Kd.R_elder' (by exact HO_489000.out) (Kd.R_base ho0) hb)
          replace HO_494000 := AM (Kd.R_elder' (by exact HO_494000.out) (Kd.R_base ho0) hb)
          replace HO_496000 := AM (Kd.R_elder' (by exact HO_496000.out) (Kd.R_base ho0) hb)
          replace BK483 := bw BK483 hb
          replace BK488 := bw BK488 hb
          replace BK493 := bw BK493 hb
          replace BK495 := bw BK495 hb
          replace HB := AM (below_step (hS) hb)
          (try clear hb)
          (try clear hb2)
          (try clear hk)
          (try clear hi)
          (try clear ho0)
          refine hK.out _ _ ⟨bc BK495 0, HS1_, HS2_, HS3_, HS4_⟩ (fun hHeld => ?_)
          clear hK K
          refine nr ?_
          refine pt 6 59 ?_; refine pt 7 66 ?_; refine pt 8 67 ?_
          refine ot 9 (some 13) fun K hK => ?_
          refine box_step ?hg (N := 13) ?hd (cs := #[.slice none 0 0]) (t := 30) ?hr ?_; (case hd => rfl); (case hg => rfl); (case hr => first | (go_simp; done) | (go_simp; rfl))
          intro gb501 hg w101 hbox hb
          have HS1_ := (hb.cell (World.block_lt_of_cell? _ _ (hHeld.2.1))).trans (hHeld.2.1)
          have HS2_ := (hb.cell (World.block_lt_of_cell? _ _ (hHeld.2.2.1))).trans (hHeld.2.2.1)
          have HS3_ := (hb.cell (World.block_lt_of_cell? _ _ (hHeld.2.2.2.1))).trans (hHeld.2.2.2.1)
          have HS4_ := (hb.cell (World.block_lt_of_cell? _ _ (hHeld.2.2.2.2))).trans (hHeld.2.2.2.2)
          replace HO_4 := AM (Kd.R_below (by exact HO_4.out) hb)
          replace HO_6 := AM (Kd.R_below (by exact HO_6.out) hb)
          replace HO_484000 := AM (Kd.R_below (by exact HO_484000.out) hb)
          replace HO_489000 := AM (Kd.R_below (by exact HO_489000.out) hb)
          replace HO_494000 := AM (Kd.R_below (by exact HO_494000.out) hb)
          replace HO_496000 := AM (Kd.R_below (by exact HO_496000.out) hb)
          replace HO499 := AM (Kd.R_below (by exact HO499.out) hb)
          have BK501 := AM (hbox)
          have GW501 := AM (bt hg hS)
          have GE501 := AM (bt hg hS)
          replace HB := AM (below_step (hS) hb)
          have NB483_501 := AM (nl hg (bk BK483))
          have NB501_483 := AM (ng hg (bk BK483))
          replace BK483 := bw BK483 hb
          have NB488_501 := AM (nl hg (bk BK488))
          have NB501_488 := AM (ng hg (bk BK488))
          replace BK488 := bw BK488 hb
          have NB493_501 := AM (nl hg (bk BK493))
          have NB501_493 := AM (ng hg (bk BK493))
          replace BK493 := bw BK493 hb
          have NB495_501 := AM (nl hg (bk BK495))
          have NB501_495 := AM (ng hg (bk BK495))
          replace BK495 := bw BK495 hb
          clear hb hbox hg
          refine hK.out _ _ ⟨bc BK495 0, HS1_, HS2_, HS3_, HS4_⟩ (fun hHeld => ?_)
          clear hK K
          refine nr ?_
          exact norm_ (by simp only [putAll, Act.put, qT, q0, qS]) (hCont (v498, gb501) _ ⟨hHeld, (by exact Kd.R_mono HO499.out (fun _ hk => ⟨hk.1.1.1.2, ⟨hk.1.1.2, ⟨hk.1.2, hk.2⟩⟩⟩)), (by exact HO_4.out), (by exact Kd.R_mono HO_484000.out (fun _ hk => ⟨hk.2, ⟨hk.1.1, hk.1.2⟩⟩)), (by exact Kd.R_mono HO_489000.out (fun _ hk => ⟨hk.2, ⟨hk.1.1, ⟨hk.1.2.1, hk.1.2.2⟩⟩⟩)), (by exact Kd.R_mono HO_494000.out (fun _ hk => ⟨hk.2, ⟨hk.1.1, ⟨hk.1.2.1, hk.1.2.2⟩⟩⟩)), (by exact Kd.R_mono HO_496000.out (fun _ hk => ⟨hk.2, ⟨hk.1.1, hk.1.2⟩⟩)), (by exact HO_6.out), (bk BK483), (bk BK488), (bk BK493), (bk BK495), (bk BK501), GW501.out, GE501.out, NB483_501.out, NB501_483.out, NB488_501.out, NB501_488.out, NB493_501.out, NB501_493.out, NB495_501.out, NB501_495.out, (hS)⟩)
         skip
         refine box_step ?hg (N := 13) ?hd (cs := #[.slice none 0 0]) (t := 30) ?hr ?_; (case hd => rfl); (case hg => rfl); (case hr => first | (go_simp; done) | (go_simp; rfl))
         intro gb501 hg w100 hbox hb
         have HS1_ := (hb.cell (World.block_lt_of_cell? _ _ (hHeld.2.1))).trans (hHeld.2.1)
         have HS2_ := (hb.cell (World.block_lt_of_cell? _ _ (hHeld.2.2.1))).trans (hHeld.2.2.1)
         have HS3_ := (hb.cell (World.block_lt_of_cell? _ _ (hHeld.2.2.2.1))).trans (hHeld.2.2.2.1)
         have HS4_ := (hb.cell (World.block_lt_of_cell? _ _ (hHeld.2.2.2.2))).trans (hHeld.2.2.2.2)
         replace HO_4 := AM (Kd.R_below (by exact HO_4.out) hb)
         replace HO_6 := AM (Kd.R_below (by exact HO_6.out) hb)
         replace HO_484000 := AM (Kd.R_below (by exact HO_484000.out) hb)
         replace HO_489000 := AM (Kd.R_below (by exact HO_489000.out) hb)
         replace HO_494000 := AM (Kd.R_below (by exact HO_494000.out) hb)
         replace HO_496000 := AM (Kd.R_below (by exact HO_496000.out) hb)
         have BK501 := AM (hbox)
         have GW501 := AM (bt hg hS)
         have GE501 := AM (bt hg hS)
         replace HB := AM (below_step (hS) hb)
         have NB483_501 := AM (nl hg (bk BK483))
         have NB501_483 := AM (ng hg (bk BK483))
         replace BK483 := bw BK483 hb
         have NB488_501 := AM (nl hg (bk BK488))
         have NB501_488 := AM (ng hg (bk BK488))
         replace BK488 := bw BK488 hb
         have NB493_501 := AM (nl hg (bk BK493))
         have NB501_493 := AM (ng hg (bk BK493))
         replace BK493 := bw BK493 hb
         have NB495_501 := AM (nl hg (bk BK495))
         have NB501_495 := AM (ng hg (bk BK495))
         replace BK495 := bw BK495 hb
         clear hb hbox hg
         refine hK.out _ _ ⟨bc BK495 0, HS1_, HS2_, HS3_, HS4_⟩ (fun hHeld => ?_)
         clear hK K
         refine nr ?_
         refine ot 5 (some 65) fun K hK => ?_
         refine goes_ Try.func19 (by kernel_rfl) rfl #[.agg #[.slice Ao98 x496000_2.length co98], .agg #[.int .i64 ((rd_T41 t476 x12_2).f0), .string ((rd_T41 t476 x12_2).f1), .string ((rd_T41 t476 x12_2).f2), .string ((rd_T41 t476 x12_2).f3)]] (by rfl) rfl rfl am ?_
         with_reducible refine (impl_DoAct.calls k2 _ _ x496000_2 ((rd_T41 t476 x12_2).f0) ((rd_T41 t476 x12_2).f1) ((rd_T41 t476 x12_2).f2) ((rd_T41 t476 x12_2).f3) t497 true _ ?side1 ?side2 A45.out).mono ?_
         (case side1 => repeat (first | exact (Kd.R_reads' HO_496000.out).2.2 | (with_reducible first | refine cA ?_ _ | refine cN ?_ _ | refine cD ?_)))
         (case side2 => exact (Kd.R_reads' HO_496000.out).2.1)
         rintro e w101 ⟨v498, rfl, ho0, hb⟩
         have HS1_ := (hb.cell (World.block_lt_of_cell? _ _ (hHeld.2.1))).trans (hHeld.2.1)
         have HS2_ := (hb.cell (World.block_lt_of_cell? _ _ (hHeld.2.2.1))).trans (hHeld.2.2.1)
         have HS3_ := (hb.cell (World.block_lt_of_cell? _ _ (hHeld.2.2.2.1))).trans (hHeld.2.2.2.1)
         have HS4_ := (hb.cell (World.block_lt_of_cell? _ _ (hHeld.2.2.2.2))).trans (hHeld.2.2.2.2)
         refine ⟨_, rfl, ?_⟩
         replace HO_4 := AM (Kd.R_below (by exact HO_4.out) hb)
         replace HO_6 := AM (Kd.R_below (by exact HO_6.out) hb)
         have HO499 := AM (Kd.R_lower (Kd.R_new' (Kd.R_new' (Kd.R_new' (Kd.R_new' ho0 (Kd.R_lt (by exact HO_484000.out))) (Kd.R_lt (by exact HO_489000.out))) (Kd.R_lt (by exact HO_494000.out))) (Kd.R_lt (by exact HO_496000.out))) (below_size (hS)))
         replace HO_484000 := AM (Kd.R_elder' (by exact HO_484000.out) (Kd.R_base ho0) hb)
         replace HO_489000 := AM (Kd.R_elder' (by exact HO_489000.out) (Kd.R_base ho0) hb)
         replace HO_494000 := AM (Kd.R_elder' (by exact HO_494000.out) (Kd.R_base ho0) hb)
         replace HO_496000 := AM (Kd.R_elder' (by exact HO_496000.out) (Kd.R_base ho0) hb)
         replace BK483 := bw BK483 hb
         replace BK488 := bw BK488 hb
         replace BK493 := bw BK493 hb
         replace BK495 := bw BK495 hb
         replace BK501 := bw BK501 hb
         replace HB := AM (below_step (hS) hb)
         (try clear hb)
         (try clear hb2)
         (try clear hk)
         (try clear hi)
         (try clear ho0)
         refine hK.out _ _ ⟨bc BK495 0, HS1_, HS2_, HS3_, HS4_⟩ (fun hHeld => ?_)
         clear hK K
         refine nr ?_
         refine pt 6 59 ?_; refine pt 7 66 ?_; refine pt 8 67 ?_
         exact norm_ (by simp only [putAll, Act.put, qT, q0, qS]) (hCont (v498, gb501) _ ⟨hHeld, (by exact Kd.R_mono HO499.out (fun _ hk => ⟨hk.1.1.1.2, ⟨hk.1.1.2, ⟨hk.1.2, hk.2⟩⟩⟩)), (by exact HO_4.out), (by exact Kd.R_mono HO_484000.out (fun _ hk => ⟨hk.2, ⟨hk.1.1, hk.1.2⟩⟩)), (by exact Kd.R_mono HO_489000.out (fun _ hk => ⟨hk.2, ⟨hk.1.1, ⟨hk.1.2.1, hk.1.2.2⟩⟩⟩)), (by exact Kd.R_mono HO_494000.out (fun _ hk => ⟨hk.2, ⟨hk.1.1, ⟨hk.1.2.1, hk.1.2.2⟩⟩⟩)), (by exact Kd.R_mono HO_496000.out (fun _ hk => ⟨hk.2, ⟨hk.1.1, hk.1.2⟩⟩)), (by exact HO_6.out), (bk BK483), (bk BK488), (bk BK493), (bk BK495), (bk BK501), GW501.out, GE501.out, NB483_501.out, NB501_483.out, NB488_501.out, NB501_488.out, NB493_501.out, NB501_493.out, NB495_501.out, NB501_495.out, (hS)⟩)
        rintro ⟨v498, gb501⟩ w102 ⟨hS_, h0_, h1_, h2_, h3_, h4_, h5_, h6_, h7_, h8_, h9_, h10_, h11_, h12_, h13_, h14_, h15_, h16_, h17_, h18_, h19_, h20_, h21_, h22_⟩
        have n0_ : Aside0 (Kd.R k67 67 w102 w.heap.size (fun k_ => some k_ ≠ (.slice Ao10 t473.length co10 : Value).ownBlock ∧ some k_ ≠ (.slice Ao15 t484.length co15 : Value).ownBlock ∧ some k_ ≠ (.slice Ao21 t489.length co21 : Value).ownBlock ∧ some k_ ≠ (.slice Ao98 x496000_2.length co98 : Value).ownBlock) v498 t497) := ⟨h0_⟩
        have n1_ : Aside0 (Kd.R k41 41 w102 w.heap.size (fun _ => True) (.slice (some ad496) t476.length co12) t476) := ⟨h1_⟩
        have n2_ : Aside0 (Kd.R k67 67 w102 w.heap.size (fun k_ => some k_ ≠ (v498 : Value).ownBlock ∧ some k_ ≠ (.slice Ao15 t484.length co15 : Value).ownBlock ∧ some k_ ≠ (.slice Ao21 t489.length co21 : Value).ownBlock) (.slice Ao10 t473.length co10) t473) := ⟨h2_⟩
        have n3_ : Aside0 (Kd.R k67 67 w102 w.heap.size (fun k_ => some k_ ≠ (v498 : Value).ownBlock ∧ some k_ ≠ (.slice Ao10 t473.length co10 : Value).ownBlock ∧ some k_ ≠ (.slice Ao21 t489.length co21 : Value).ownBlock ∧ some k_ ≠ (.slice Ao98 x496000_2.length co98 : Value).ownBlock) (.slice Ao15 t484.length co15) t484) := ⟨h3_⟩
        have n4_ : Aside0 (Kd.R k67 67 w102 w.heap.size (fun k_ => some k_ ≠ (v498 : Value).ownBlock ∧ some k_ ≠ (.slice Ao10 t473.length co10 : Value).ownBlock ∧ some k_ ≠ (.slice Ao15 t484.length co15 : Value).ownBlock ∧ some k_ ≠ (.slice Ao98 x496000_2.length co98 : Value).ownBlock) (.slice Ao21 t489.length co21) t489) := ⟨h4_⟩
        have n5_ : Aside0 (Kd.R k67 67 w102 w.heap.size (fun k_ => some k_ ≠ (v498 : Value).ownBlock ∧ some k_ ≠ (.slice Ao15 t484.length co15 : Value).ownBlock ∧ some k_ ≠ (.slice Ao21 t489.length co21 : Value).ownBlock) (.slice Ao98 x496000_2.length co98) x496000_2) := ⟨h5_⟩
        have n6_ : Aside0 (Kd.R (Kd.int .i64) 3 w102 w.heap.size (fun _ => True) v481 t480) := ⟨h6_⟩
        have n7_ : Aside0 (w102.heap[gb483]? = some (.cells #[.slice Ao10 t473.length co10] 30 (0, 0))) := ⟨h7_⟩
        have n8_ : Aside0 (w102.heap[gb488]? = some (.cells #[.slice Ao15 t484.length co15] 30 (0, 0))) := ⟨h8_⟩
        have n9_ : Aside0 (w102.heap[gb493]? = some (.cells #[.slice Ao21 t489.length co21] 30 (0, 0))) := ⟨h9_⟩
        have n10_ : Aside0 (w102.heap[gb495]? = some (.cells #[.slice Ao98 x496000_2.length co98] 30 (0, 0))) := ⟨h10_⟩
        have n11_ : Aside0 (w102.heap[gb501]? = some (.cells #[.slice none 0 0] 30 (0, 0))) := ⟨h11_⟩
        have n12_ : Aside0 (w.heap.size ≤ gb501) := ⟨h12_⟩
        have n13_ : Aside0 (w.heap.size ≤ gb501) := ⟨h13_⟩
        have n14_ : Aside0 (gb483 ≠ gb501) := ⟨h14_⟩
        have n15_ : Aside0 (gb501 ≠ gb483) := ⟨h15_⟩
        have n16_ : Aside0 (gb488 ≠ gb501) := ⟨h16_⟩
        have n17_ : Aside0 (gb501 ≠ gb488) := ⟨h17_⟩
        have n18_ : Aside0 (gb493 ≠ gb501) := ⟨h18_⟩
        have n19_ : Aside0 (gb501 ≠ gb493) := ⟨h19_⟩
        have n20_ : Aside0 (gb495 ≠ gb501) := ⟨h20_⟩
        have n21_ : Aside0 (gb501 ≠ gb495) := ⟨h21_⟩
        have n22_ : Aside0 (Below w.heap.size w w102) := ⟨h22_⟩
        clear HO_4
        clear HO_6
        clear HO_484000
        clear HO_489000
        clear HO_494000
        clear HO_496000
        clear BK483
        clear BK488
        clear BK493
        clear BK495
        clear HB
        clear h0_ h1_ h2_ h3_ h4_ h5_ h6_ h7_ h8_ h9_ h10_ h11_ h12_ h13_ h14_ h15_ h16_ h17_ h18_ h19_ h20_ h21_ h22_
        have HO499 := n0_
        have HO_4 := n1_
        have HO_484000 := n2_
        have HO_489000 := n3_
        have HO_494000 := n4_
        have HO_496000 := n5_
        have HO_6 := n6_
        have BK483 := n7_
        have BK488 := n8_
        have BK493 := n9_
        have BK495 := n10_
        have BK501 := n11_
        have GW501 := n12_
        have GE501 := n13_
        have NB483_501 := n14_
        have NB501_483 := n15_
        have NB488_501 := n16_
        have NB501_488 := n17_
        have NB493_501 := n18_
        have NB501_493 := n19_
        have NB495_501 := n20_
        have NB501_495 := n21_
        have HB := n22_
        clear n0_ n1_ n2_ n3_ n4_ n5_ n6_ n7_ n8_ n9_ n10_ n11_ n12_ n13_ n14_ n15_ n16_ n17_ n18_ n19_ n20_ n21_ n22_
        have hHeld : w102.cell? ⟨gb495, 0, none⟩ = some (.slice Ao98 x496000_2.length co98) ∧ w102.cell? (ad496.add ((x12_2).toNat * 4)) = some (.int .i64 ((rd_T41 t476 x12_2).f0)) ∧ w102.cell? ⟨(ad496.add ((x12_2).toNat * 4)).block, (ad496.add ((x12_2).toNat * 4)).off + 1, none⟩ = some (.string ((rd_T41 t476 x12_2).f1)) ∧ w102.cell? ⟨(ad496.add ((x12_2).toNat * 4)).block, (ad496.add ((x12_2).toNat * 4)).off + 2, none⟩ = some (.string ((rd_T41 t476 x12_2).f2)) ∧ w102.cell? ⟨(ad496.add ((x12_2).toNat * 4)).block, (ad496.add ((x12_2).toNat * 4)).off + 3, none⟩ = some (.string ((rd_T41 t476 x12_2).f3)) := hS_
        obtain ⟨Ao103, co103, eo103⟩ := Kd.R_slice HO499.out
        (first | subst eo103 | (injection eo103 with f1_ f2_ f3_; have f4_ := f1_.symm; have f5_ := f3_.symm; clear f1_ f2_ f3_; subst f4_; subst f5_))
        refine norm_ (a' := ?_) ?_ ?_
        rotate_left
        ·simp only [putAll, Act.put, qT, q0, qS]
         rfl
        refine ot 10 none fun K hK => ?_
        have hs104 : w102.cell? ⟨gb501, 0, none⟩ = some (.slice none 0 0) := bc BK501 0
        have hfs104 := bz BK501 0
        have hns104_0 := NB483_501.out
        have hns104_1 := NB488_501.out
        have hns104_2 := NB493_501.out
        have hns104_3 := NB495_501.out
        have hms104_0 := NB501_483.out
        have hms104_1 := NB501_488.out
        have hms104_2 := NB501_493.out
        have hms104_3 := NB501_495.out
        refine sk ?_
        refine hK.out _ _ ⟨((cell_far (p := ⟨gb501, _, none⟩) NB495_501.out _).trans (hHeld.1)), ((cell_far (p := ⟨gb501, _, none⟩) (by first | exact Kd.own_blk (Kd.R_ne HO_4.out BK501.out (by decide)) | (rw [add_block]; exact Kd.own_blk (Kd.R_ne HO_4.out BK501.out (by decide))) | (show (Addr.add _ _).block ≠ _; rw [add_block]; exact Kd.own_blk (Kd.R_ne HO_4.out BK501.out (by decide))) | (dsimp only; exact Kd.own_blk (Kd.R_ne HO_4.out BK501.out (by decide)))) _).trans (hHeld.2.1)), ((cell_far (p := ⟨gb501, _, none⟩) (by first | exact Kd.own_blk (Kd.R_ne HO_4.out BK501.out (by decide)) | (rw [add_block]; exact Kd.own_blk (Kd.R_ne HO_4.out BK501.out (by decide))) | (show (Addr.add _ _).block ≠ _; rw [add_block]; exact Kd.own_blk (Kd.R_ne HO_4.out BK501.out (by decide))) | (dsimp only; exact Kd.own_blk (Kd.R_ne HO_4.out BK501.out (by decide)))) _).trans (hHeld.2.2.1)), ((cell_far (p := ⟨gb501, _, none⟩) (by first | exact Kd.own_blk (Kd.R_ne HO_4.out BK501.out (by decide)) | (rw [add_block]; exact Kd.own_blk (Kd.R_ne HO_4.out BK501.out (by decide))) | (show (Addr.add _ _).block ≠ _; rw [add_block]; exact Kd.own_blk (Kd.R_ne HO_4.out BK501.out (by decide))) | (dsimp only; exact Kd.own_blk (Kd.R_ne HO_4.out BK501.out (by decide)))) _).trans (hHeld.2.2.2.1)), ((cell_far (p := ⟨gb501, _, none⟩) (by first | exact Kd.own_blk (Kd.R_ne HO_4.out BK501.out (by decide)) | (rw [add_block]; exact Kd.own_blk (Kd.R_ne HO_4.out BK501.out (by decide))) | (show (Addr.add _ _).block ≠ _; rw [add_block]; exact Kd.own_blk (Kd.R_ne HO_4.out BK501.out (by decide))) | (dsimp only; exact Kd.own_blk (Kd.R_ne HO_4.out BK501.out (by decide)))) _).trans (hHeld.2.2.2.2))⟩ (fun hHeld => ?_)
        clear hK K
        refine pt 11 14 ?_
        refine dn ?_
        try go_wp2
        have n0_ : Aside0 (Kd.R k41 41 (w102.setCell ⟨gb501, 0, none⟩ (.slice Ao103 t497.length co103)) w.heap.size (fun _ => True) (.slice (some ad496) t476.length co12) t476) := ⟨by exact Kd.R_mono (Kd.R_far (p := ⟨gb501, 0, none⟩) (Kd.R_types HO_4.out BK501.out (by decide)) (fun _ hk => hk.2) (.slice Ao103 t497.length co103)) (fun _ hk => trivial)⟩
        have n1_ : Aside0 (Kd.R (Kd.int .i64) 3 (w102.setCell ⟨gb501, 0, none⟩ (.slice Ao103 t497.length co103)) w.heap.size (fun _ => True) v481 t480) := ⟨by exact Kd.R_mono (Kd.R_far (p := ⟨gb501, 0, none⟩) (Kd.R_types HO_6.out BK501.out (by decide)) (fun _ hk => hk.2) (.slice Ao103 t497.length co103)) (fun _ hk => trivial)⟩
        have n2_ : Aside0 (Kd.R k67 67 (w102.setCell ⟨gb501, 0, none⟩ (.slice Ao103 t497.length co103)) w.heap.size (fun k_ => some k_ ≠ (.slice Ao15 t484.length co15 : Value).ownBlock ∧ some k_ ≠ (.slice Ao21 t489.length co21 : Value).ownBlock ∧ some k_ ≠ (.slice Ao103 t497.length co103 : Value).ownBlock) (.slice Ao10 t473.length co10) t473) := ⟨by exact Kd.R_mono (Kd.R_far (p := ⟨gb501, 0, none⟩) (Kd.R_types HO_484000.out BK501.out (by decide)) (fun _ hk => hk.2) (.slice Ao103 t497.length co103)) (fun _ hk => ⟨hk.1.2.1, ⟨hk.1.2.2, hk.1.1⟩⟩)⟩
        have n3_ : Aside0 (Kd.R k67 67 (w102.setCell ⟨gb501, 0, none⟩ (.slice Ao103 t497.length co103)) w.heap.size (fun k_ => some k_ ≠ (.slice Ao10 t473.length co10 : Value).ownBlock ∧ some k_ ≠ (.slice Ao21 t489.length co21 : Value).ownBlock ∧ some k_ ≠ (.slice Ao98 x496000_2.length co98 : Value).ownBlock ∧ some k_ ≠ (.slice Ao103 t497.length co103 : Value).ownBlock) (.slice Ao15 t484.length co15) t484) := ⟨by exact Kd.R_mono (Kd.R_far (p := ⟨gb501, 0, none⟩) (Kd.R_types HO_489000.out BK501.out (by decide)) (fun _ hk => hk.2) (.slice Ao103 t497.length co103)) (fun _ hk => ⟨hk.1.2.1, ⟨hk.1.2.2.1, ⟨hk.1.2.2.2, hk.1.1⟩⟩⟩)⟩
        have n4_ : Aside0 (Kd.R k67 67 (w102.setCell ⟨gb501, 0, none⟩ (.slice Ao103 t497.length co103)) w.heap.size (fun k_ => some k_ ≠ (.slice Ao10 t473.length co10 : Value).ownBlock ∧ some k_ ≠ (.slice Ao15 t484.length co15 : Value).ownBlock ∧ some k_ ≠ (.slice Ao98 x496000_2.length co98 : Value).ownBlock ∧ some k_ ≠ (.slice Ao103 t497.length co103 : Value).ownBlock) (.slice Ao21 t489.length co21) t489) := ⟨by exact Kd.R_mono (Kd.R_far (p := ⟨gb501, 0, none⟩) (Kd.R_types HO_494000.out BK501.out (by decide)) (fun _ hk => hk.2) (.slice Ao103 t497.length co103)) (fun _ hk => ⟨hk.1.2.1, ⟨hk.1.2.2.1, ⟨hk.1.2.2.2, hk.1.1⟩⟩⟩)⟩
        have n5_ : Aside0 (Kd.R k67 67 (w102.setCell ⟨gb501, 0, none⟩ (.slice Ao103 t497.length co103)) w.heap.size (fun k_ => some k_ ≠ (.slice Ao15 t484.length co15 : Value).ownBlock ∧ some k_ ≠ (.slice Ao21 t489.length co21 : Value).ownBlock ∧ some k_ ≠ (.slice Ao103 t497.length co103 : Value).ownBlock) (.slice Ao98 x496000_2.length co98) x496000_2) := ⟨by exact Kd.R_mono (Kd.R_far (p := ⟨gb501, 0, none⟩) (Kd.R_types HO_496000.out BK501.out (by decide)) (fun _ hk => hk.2) (.slice Ao103 t497.length co103)) (fun _ hk => ⟨hk.1.2.1, ⟨hk.1.2.2, hk.1.1⟩⟩)⟩
        have n6_ : Aside0 (Kd.R k67 67 (w102.setCell ⟨gb501, 0, none⟩ (.slice Ao103 t497.length co103)) w.heap.size (fun k_ => some k_ ≠ (.slice Ao10 t473.length co10 : Value).ownBlock ∧ some k_ ≠ (.slice Ao15 t484.length co15 : Value).ownBlock ∧ some k_ ≠ (.slice Ao21 t489.length co21 : Value).ownBlock ∧ some k_ ≠ (.slice Ao98 x496000_2.length co98 : Value).ownBlock) (.slice Ao103 t497.length co103) t497) := ⟨by exact Kd.R_mono (Kd.R_far (p := ⟨gb501, 0, none⟩) (Kd.R_types HO499.out BK501.out (by decide)) (fun _ hk => hk.2) (.slice Ao103 t497.length co103)) (fun _ hk => ⟨hk.1.1, ⟨hk.1.2.1, ⟨hk.1.2.2.1, hk.1.2.2.2⟩⟩⟩)⟩
        have n7_ : Aside0 ((w102.setCell ⟨gb501, 0, none⟩ (.slice Ao103 t497.length co103)).heap[gb483]? = some (.cells #[.slice Ao10 t473.length co10] 30 (0, 0))) := ⟨be⟩
        have n8_ : Aside0 ((w102.setCell ⟨gb501, 0, none⟩ (.slice Ao103 t497.length co103)).heap[gb488]? = some (.cells #[.slice Ao15 t484.length co15] 30 (0, 0))) := ⟨be⟩
        have n9_ : Aside0 ((w102.setCell ⟨gb501, 0, none⟩ (.slice Ao103 t497.length co103)).heap[gb493]? = some (.cells #[.slice Ao21 t489.length co21] 30 (0, 0))) := ⟨be⟩
        have n10_ : Aside0 ((w102.setCell ⟨gb501, 0, none⟩ (.slice Ao103 t497.length co103)).heap[gb495]? = some (.cells #[.slice Ao98 x496000_2.length co98] 30 (0, 0))) := ⟨be⟩
        have n11_ : Aside0 ((w102.setCell ⟨gb501, 0, none⟩ (.slice Ao103 t497.length co103)).heap[gb501]? = some (.cells #[.slice Ao103 t497.length co103] 30 (0, 0))) := ⟨bp #[.slice none 0 0] 0⟩
        have n12_ : Aside0 (Below w.heap.size w (w102.setCell ⟨gb501, 0, none⟩ (.slice Ao103 t497.length co103))) := ⟨hS⟩
        (try clear HO_4)
        (try clear HO_6)
        (try clear HO_484000)
        (try clear HO_489000)
        (try clear HO_494000)
        (try clear HO_496000)
        (try clear HO499)
        (try clear BK483)
        (try clear BK488)
        (try clear BK493)
        (try clear BK495)
        (try clear BK501)
        (try clear HB)
        generalize (w102.setCell ⟨gb501, 0, none⟩ (.slice Ao103 t497.length co103)) = w105 at n0_ n1_ n2_ n3_ n4_ n5_ n6_ n7_ n8_ n9_ n10_ n11_ n12_ ⊢
        have HO_4 := n0_
        have HO_6 := n1_
        have HO_484000 := n2_
        have HO_489000 := n3_
        have HO_494000 := n4_
        have HO_496000 := n5_
        have HO499 := n6_
        have BK483 := n7_
        have BK488 := n8_
        have BK493 := n9_
        have BK495 := n10_
        have BK501 := n11_
        have HB := n12_
        clear n0_ n1_ n2_ n3_ n4_ n5_ n6_ n7_ n8_ n9_ n10_ n11_ n12_
        replace HO_4 := AM (Kd.R_drew HO_4.out)
        replace HO_6 := AM (Kd.R_drew HO_6.out)
        replace HO_484000 := AM (Kd.R_drew HO_484000.out)
        replace HO_489000 := AM (Kd.R_drew HO_489000.out)
        replace HO_494000 := AM (Kd.R_drew HO_494000.out)
        replace HO_496000 := AM (Kd.R_drew HO_496000.out)
        replace HO499 := AM (Kd.R_drew HO499.out)
        replace BK483 := AM (blk_drew BK483.out)
        replace BK488 := AM (blk_drew BK488.out)
        replace BK493 := AM (blk_drew BK493.out)
        replace BK495 := AM (blk_drew BK495.out)
        replace BK501 := AM (blk_drew BK501.out)
        replace HB := AM (below_drew1 HB.out)
        have p502 : 0 ≤ (x12_2 : Int) := od
        have q502 : x12_2 < (t476.length : Int) := od
        obtain ⟨ad502, e502, hx502_0, hx502_1, hx502_2, hx502_3⟩ := at_T41 (Kd.R_reads' HO_4.out).2.2 x12_2 p502 q502
        obtain rfl : ad496 = ad502 := (by injection e502)
        replace p502 := eq_true p502
        replace q502 := eq_true q502
        refine sr 12 (fun w' => w'.cell? ⟨gb495, 0, none⟩ = some (.slice Ao98 x496000_2.length co98) ∧ w'.cell? (ad496.add ((x12_2).toNat * 4)) = some (.int .i64 ((rd_T41 t476 x12_2).f0)) ∧ w'.cell? ⟨(ad496.add ((x12_2).toNat * 4)).block, (ad496.add ((x12_2).toNat * 4)).off + 1, none⟩ = some (.string ((rd_T41 t476 x12_2).f1)) ∧ w'.cell? ⟨(ad496.add ((x12_2).toNat * 4)).block, (ad496.add ((x12_2).toNat * 4)).off + 2, none⟩ = some (.string ((rd_T41 t476 x12_2).f2)) ∧ w'.cell? ⟨(ad496.add ((x12_2).toNat * 4)).block, (ad496.add ((x12_2).toNat * 4)).off + 3, none⟩ = some (.string ((rd_T41 t476 x12_2).f3))) [] ⟨bc BK495 0, hx502_0, hx502_1, hx502_2, hx502_3⟩ (fun hHeld => ?_); refine with_tabW laws_FnActs.tab15 laws_FnActs.bits15 (fun HT_ HW_ => ?_)
        generalize w105.drew = w106 at HO_4 HO_6 HO_484000 HO_489000 HO_494000 HO_496000 HO499 BK483 BK488 BK493 BK495 BK501 HB hx502_0 hx502_1 hx502_2 hx502_3 hHeld ⊢
        refine pt 1 72 ?_; refine pt 2 73 ?_; refine pt 3 74 ?_; refine pt 4 75 ?_; refine tt 0 71 ?_; refine tt 5 76 ?_
        refine ot 6 (some 77) fun K hK => ?_
        refine goes_ Try.func12 (by kernel_rfl) rfl #[.agg #[.slice Ao98 x496000_2.length co98], .string ((rd_T41 t476 x12_2).f1)] (by rfl) rfl rfl am ?_
        with_reducible refine (impl_FileAt.calls _ _ x496000_2 ((rd_T41 t476 x12_2).f1) t503 t504 _ ?side1 ?side2 A47.out).mono ?_
        (case side1 => repeat (first | exact (Kd.R_reads' HO_496000.out).2.2 | (with_reducible first | refine cA ?_ _ | refine cN ?_ _ | refine cD ?_)))
        (case side2 => exact (Kd.R_reads' HO_496000.out).2.1)
        rintro e w107 ⟨rfl, hb⟩
        have HS1_ := (hb.cell (World.block_lt_of_cell? _ _ (hHeld.2.1))).trans (hHeld.2.1)
        have HS2_ := (hb.cell (World.block_lt_of_cell? _ _ (hHeld.2.2.1))).trans (hHeld.2.2.1)
        have HS3_ := (hb.cell (World.block_lt_of_cell? _ _ (hHeld.2.2.2.1))).trans (hHeld.2.2.2.1)
        have HS4_ := (hb.cell (World.block_lt_of_cell? _ _ (hHeld.2.2.2.2))).trans (hHeld.2.2.2.2)
        refine ⟨_, rfl, ?_⟩
        replace HO_4 := AM (Kd.R_below (by exact HO_4.out) hb)
        replace HO_6 := AM (Kd.R_below (by exact HO_6.out) hb)
        replace HO_484000 := AM (Kd.R_below (by exact HO_484000.out) hb)
        replace HO_489000 := AM (Kd.R_below (by exact HO_489000.out) hb)
        replace HO_494000 := AM (Kd.R_below (by exact HO_494000.out) hb)
        replace HO_496000 := AM (Kd.R_below (by exact HO_496000.out) hb)
        replace HO499 := AM (Kd.R_below (by exact HO499.out) hb)
        replace BK483 := bw BK483 hb
        replace BK488 := bw BK488 hb
        replace BK493 := bw BK493 hb
        replace BK495 := bw BK495 hb
        replace BK501 := bw BK501 hb
        replace HB := AM (below_step (hS) hb)
        (try clear hb)
        (try clear hb2)
        (try clear hk)
        (try clear hi)
        refine hK.out _ _ ⟨bc BK495 0, HS1_, HS2_, HS3_, HS4_⟩ (fun hHeld => ?_)
        clear hK K
        refine nr ?_
        refine pt 7 70 ?_; refine pt 8 78 ?_; refine pt 9 79 ?_; refine pt 10 15 ?_; refine pt 11 16 ?_
        refine dn ?_
        try go_wp2
        replace HO_4 := AM (Kd.R_drew HO_4.out)
        replace HO_6 := AM (Kd.R_drew HO_6.out)
        replace HO_484000 := AM (Kd.R_drew HO_484000.out)
        replace HO_489000 := AM (Kd.R_drew HO_489000.out)
        replace HO_494000 := AM (Kd.R_drew HO_494000.out)
        replace HO_496000 := AM (Kd.R_drew HO_496000.out)
        replace HO499 := AM (Kd.R_drew HO499.out)
        replace BK483 := AM (blk_drew BK483.out)
        replace BK488 := AM (blk_drew BK488.out)
        replace BK493 := AM (blk_drew BK493.out)
        replace BK495 := AM (blk_drew BK495.out)
        replace BK501 := AM (blk_drew BK501.out)
        replace HB := AM (below_drew1 HB.out)
        have p505 : 0 ≤ (x12_2 : Int) := od
        have q505 : x12_2 < (t476.length : Int) := od
        obtain ⟨ad505, e505, hx505_0, hx505_1, hx505_2, hx505_3⟩ := at_T41 (Kd.R_reads' HO_4.out).2.2 x12_2 p505 q505
        obtain rfl : ad496 = ad505 := (by injection e505)
        replace p505 := eq_true p505
        replace q505 := eq_true q505
        refine sr 12 (fun w' => w'.cell? ⟨gb501, 0, none⟩ = some (.slice Ao103 t497.length co103) ∧ w'.cell? (ad496.add ((x12_2).toNat * 4)) = some (.int .i64 ((rd_T41 t476 x12_2).f0)) ∧ w'.cell? ⟨(ad496.add ((x12_2).toNat * 4)).block, (ad496.add ((x12_2).toNat * 4)).off + 1, none⟩ = some (.string ((rd_T41 t476 x12_2).f1)) ∧ w'.cell? ⟨(ad496.add ((x12_2).toNat * 4)).block, (ad496.add ((x12_2).toNat * 4)).off + 2, none⟩ = some (.string ((rd_T41 t476 x12_2).f2)) ∧ w'.cell? ⟨(ad496.add ((x12_2).toNat * 4)).block, (ad496.add ((x12_2).toNat * 4)).off + 3, none⟩ = some (.string ((rd_T41 t476 x12_2).f3))) [] ⟨bc BK501 0, hx505_0, hx505_1, hx505_2, hx505_3⟩ (fun hHeld => ?_); refine with_tabW laws_FnActs.tab16 laws_FnActs.bits16 (fun HT_ HW_ => ?_)
        generalize w107.drew = w108 at HO_4 HO_6 HO_484000 HO_489000 HO_494000 HO_496000 HO499 BK483 BK488 BK493 BK495 BK501 HB hx505_0 hx505_1 hx505_2 hx505_3 hHeld ⊢
        refine pt 1 82 ?_; refine pt 2 83 ?_; refine pt 3 84 ?_; refine pt 4 85 ?_; refine tt 0 81 ?_; refine tt 5 86 ?_
        refine ot 6 (some 87) fun K hK => ?_
        refine goes_ Try.func12 (by kernel_rfl) rfl #[.agg #[.slice Ao103 t497.length co103], .string ((rd_T41 t476 x12_2).f1)] (by rfl) rfl rfl am ?_
        with_reducible refine (impl_FileAt.calls _ _ t497 ((rd_T41 t476 x12_2).f1) t506 t507 _ ?side1 ?side2 A48.out).mono ?_
        (case side1 => repeat (first | exact (Kd.R_reads' HO499.out).2.2 | (with_reducible first | refine cA ?_ _ | refine cN ?_ _ | refine cD ?_)))
        (case side2 => exact (Kd.R_reads' HO499.out).2.1)
        rintro e w109 ⟨rfl, hb⟩
        have HS1_ := (hb.cell (World.block_lt_of_cell? _ _ (hHeld.2.1))).trans (hHeld.2.1)
        have HS2_ := (hb.cell (World.block_lt_of_cell? _ _ (hHeld.2.2.1))).trans (hHeld.2.2.1)
        have HS3_ := (hb.cell (World.block_lt_of_cell? _ _ (hHeld.2.2.2.1))).trans (hHeld.2.2.2.1)
        have HS4_ := (hb.cell (World.block_lt_of_cell? _ _ (hHeld.2.2.2.2))).trans (hHeld.2.2.2.2)
        refine ⟨_, rfl, ?_⟩
        replace HO_4 := AM (Kd.R_below (by exact HO_4.out) hb)
        replace HO_6 := AM (Kd.R_below (by exact HO_6.out) hb)
        replace HO_484000 := AM (Kd.R_below (by exact HO_484000.out) hb)
        replace HO_489000 := AM (Kd.R_below (by exact HO_489000.out) hb)
        replace HO_494000 := AM (Kd.R_below (by exact HO_494000.out) hb)
        replace HO_496000 := AM (Kd.R_below (by exact HO_496000.out) hb)
        replace HO499 := AM (Kd.R_below (by exact HO499.out) hb)
        replace BK483 := bw BK483 hb
        replace BK488 := bw BK488 hb
        replace BK493 := bw BK493 hb
        replace BK495 := bw BK495 hb
        replace BK501 := bw BK501 hb
        replace HB := AM (below_step (hS) hb)
        (try clear hb)
        (try clear hb2)
        (try clear hk)
        (try clear hi)
        refine hK.out _ _ ⟨bc BK501 0, HS1_, HS2_, HS3_, HS4_⟩ (fun hHeld => ?_)
        clear hK K
        refine nr ?_
        refine pt 7 80 ?_; refine pt 8 88 ?_; refine pt 9 89 ?_; refine pt 10 17 ?_; refine pt 11 18 ?_
        refine dn ?_
        have p508 : 0 ≤ (x12_2 : Int) := od
        have q508 : x12_2 < (t476.length : Int) := od
        obtain ⟨ad508, e508, hx508_0, hx508_1, hx508_2, hx508_3⟩ := at_T41 (Kd.R_reads' HO_4.out).2.2 x12_2 p508 q508
        obtain rfl : ad496 = ad508 := (by injection e508)
        replace p508 := eq_true p508
        replace q508 := eq_true q508
        have p511 : 0 ≤ (x12_2 : Int) := od
        have q511 : x12_2 < (t476.length : Int) := od
        obtain ⟨ad511, e511, hx511_0, hx511_1, hx511_2, hx511_3⟩ := at_T41 (Kd.R_reads' HO_4.out).2.2 x12_2 p511 q511
        obtain rfl : ad496 = ad511 := (by injection e511)
        replace p511 := eq_true p511
        replace q511 := eq_true q511
        have hnb110 := NB501_483.out
        have hnc110 := NB483_501.out
        have hnb111 := NB501_488.out
        have hnc111 := NB488_501.out
        have hnb112 := NB501_493.out
        have hnc112 := NB493_501.out
        have hnb113 := NB501_495.out
        have hnc113 := NB495_501.out
        have hcz114_0 := bv BK501 0 (.slice Ao103 t497.length co103)
        have hfz114_0 := bz BK501 0
        have hnb115 := NB495_483.out
        have hnc115 := NB483_495.out
        have hnb116 := NB495_488.out
        have hnc116 := NB488_495.out
        have hnb117 := NB495_493.out
        have hnc117 := NB493_495.out
        have hcz118_0 := bv BK495 0 (.slice Ao98 x496000_2.length co98)
        have hfz118_0 := bz BK495 0
        rcases HD.out.2 with ⟨d1, d4, d2, d3, d5⟩ | ⟨d1, d4, d2⟩ | ⟨d1, d4⟩
        ·clear HD
         subst d2
         have d1b0 : (((rd_T41 t476 x12_2).f0) == 1) = true := beq_iff_eq.mpr d1
         have d1b1 : (((rd_T41 t476 x12_2).f0) != 1) = false := bne_eq_false_iff_eq.mpr d1
         have d4b0 : (((rd_T41 t476 x12_2).f0) == 4) = false := beq_eq_false_iff_ne.mpr d4
         have d4b1 : (((rd_T41 t476 x12_2).f0) != 4) = true := bne_iff_ne.mpr d4
         have d3b0 := eq_true d3
         have d3b1 : decide (t503.size + ((rd_T41 t476 x12_2).f2).size ≤ 9223372036854775807) = true := decide_eq_true d3
         try have d3b2 : (9223372036854775807 < t503.size + ((rd_T41 t476 x12_2).f2).size) = False := eq_false (Nat.not_lt.2 d3)
         have d5b0 : (t506.toList == (t503 ++ ((rd_T41 t476 x12_2).f2)).toList) = true := beq_iff_eq.mpr d5
         have d5b1 : (t506.toList != (t503 ++ ((rd_T41 t476 x12_2).f2)).toList) = false := bne_eq_false_iff_eq.mpr d5
         clear d1 d5
         try go_wp2
         go_roundg k2
         case measure => have := HJ6.out; have := HK2.out; omega
         case rel => exact ⟨(wrap64 (x12_2 + 1)), (t497), (.slice Ao103 t497.length co103), sf, H', ⟨by have := HJ6.out; have := HK2.out; omega⟩, ⟨by exact Kd.R_mono (Kd.R_far (p := ⟨gb495, 0, none⟩) (Kd.R_types HO_4.out BK495.out (by decide)) (fun _ hk => hk.2) (.slice Ao103 t497.length co103)) (fun _ hk => trivial)⟩, ⟨by exact Kd.R_mono (Kd.R_far (p := ⟨gb495, 0, none⟩) (Kd.R_types HO_6.out BK495.out (by decide)) (fun _ hk => hk.2) (.slice Ao103 t497.length co103)) (fun _ hk => trivial)⟩, ⟨by exact Kd.R_mono (Kd.R_far (p := ⟨gb495, 0, none⟩) (Kd.R_types HO_484000.out BK495.out (by decide)) (fun _ hk => hk.2) (.slice Ao103 t497.length co103)) (fun _ hk => ⟨hk.1.1, hk.1.2.1⟩)⟩, ⟨by exact Kd.R_mono (Kd.R_far (p := ⟨gb495, 0, none⟩) (Kd.R_types HO_489000.out BK495.out (by decide)) (fun _ hk => hk.2) (.slice Ao103 t497.length co103)) (fun _ hk => ⟨hk.1.1, ⟨hk.1.2.1, hk.1.2.2.2⟩⟩)⟩, ⟨by exact Kd.R_mono (Kd.R_far (p := ⟨gb495, 0, none⟩) (Kd.R_types HO_494000.out BK495.out (by decide)) (fun _ hk => hk.2) (.slice Ao103 t497.length co103)) (fun _ hk => ⟨hk.1.1, ⟨hk.1.2.1, hk.1.2.2.2⟩⟩)⟩, ⟨by exact Kd.R_mono (Kd.R_far (p := ⟨gb495, 0, none⟩) (Kd.R_types HO499.out BK495.out (by decide)) (fun _ hk => hk.2) (.slice Ao103 t497.length co103)) (fun _ hk => ⟨hk.1.2.1, hk.1.2.2.1⟩)⟩, ⟨be⟩, ⟨be⟩, ⟨be⟩, ⟨bp #[.slice Ao98 x496000_2.length co98] 0⟩, ⟨hS⟩⟩
        ·clear HD
         subst d2
         have d1b0 : (((rd_T41 t476 x12_2).f0) == 1) = false := beq_eq_false_iff_ne.mpr d1
         have d1b1 : (((rd_T41 t476 x12_2).f0) != 1) = true := bne_iff_ne.mpr d1
         have d4b0 : (((rd_T41 t476 x12_2).f0) == 4) = true := beq_iff_eq.mpr d4
         have d4b1 : (((rd_T41 t476 x12_2).f0) != 4) = false := bne_eq_false_iff_eq.mpr d4
         clear d4
         try go_wp2
         go_roundg k2
         case measure => have := HJ6.out; have := HK2.out; omega
         case rel => exact ⟨(wrap64 (x12_2 + 1)), (t497), (.slice Ao103 t497.length co103), sf, H', ⟨by have := HJ6.out; have := HK2.out; omega⟩, ⟨by exact Kd.R_mono (Kd.R_far (p := ⟨gb495, 0, none⟩) (Kd.R_types HO_4.out BK495.out (by decide)) (fun _ hk => hk.2) (.slice Ao103 t497.length co103)) (fun _ hk => trivial)⟩, ⟨by exact Kd.R_mono (Kd.R_far (p := ⟨gb495, 0, none⟩) (Kd.R_types HO_6.out BK495.out (by decide)) (fun _ hk => hk.2) (.slice Ao103 t497.length co103)) (fun _ hk => trivial)⟩, ⟨by exact Kd.R_mono (Kd.R_far (p := ⟨gb495, 0, none⟩) (Kd.R_types HO_484000.out BK495.out (by decide)) (fun _ hk => hk.2) (.slice Ao103 t497.length co103)) (fun _ hk => ⟨hk.1.1, hk.1.2.1⟩)⟩, ⟨by exact Kd.R_mono (Kd.R_far (p := ⟨gb495, 0, none⟩) (Kd.R_types HO_489000.out BK495.out (by decide)) (fun _ hk => hk.2) (.slice Ao103 t497.length co103)) (fun _ hk => ⟨hk.1.1, ⟨hk.1.2.1, hk.1.2.2.2⟩⟩)⟩, ⟨by exact Kd.R_mono (Kd.R_far (p := ⟨gb495, 0, none⟩) (Kd.R_types HO_494000.out BK495.out (by decide)) (fun _ hk => hk.2) (.slice Ao103 t497.length co103)) (fun _ hk => ⟨hk.1.1, ⟨hk.1.2.1, hk.1.2.2.2⟩⟩)⟩, ⟨by exact Kd.R_mono (Kd.R_far (p := ⟨gb495, 0, none⟩) (Kd.R_types HO499.out BK495.out (by decide)) (fun _ hk => hk.2) (.slice Ao103 t497.length co103)) (fun _ hk => ⟨hk.1.2.1, hk.1.2.2.1⟩)⟩, ⟨be⟩, ⟨be⟩, ⟨be⟩, ⟨bp #[.slice Ao98 x496000_2.length co98] 0⟩, ⟨hS⟩⟩
        ·clear HD
         have d1b0 : (((rd_T41 t476 x12_2).f0) == 1) = false := beq_eq_false_iff_ne.mpr d1
         have d1b1 : (((rd_T41 t476 x12_2).f0) != 1) = true := bne_iff_ne.mpr d1
         have d4b0 : (((rd_T41 t476 x12_2).f0) == 4) = false := beq_eq_false_iff_ne.mpr d4
         have d4b1 : (((rd_T41 t476 x12_2).f0) != 4) = true := bne_iff_ne.mpr d4
         try go_wp2
         go_roundg k2
         case measure => have := HJ6.out; have := HK2.out; omega
         case rel => exact ⟨(wrap64 (x12_2 + 1)), (t497), (.slice Ao103 t497.length co103), sf, H', ⟨by have := HJ6.out; have := HK2.out; omega⟩, ⟨by exact Kd.R_mono (Kd.R_far (p := ⟨gb495, 0, none⟩) (Kd.R_types HO_4.out BK495.out (by decide)) (fun _ hk => hk.2) (.slice Ao103 t497.length co103)) (fun _ hk => trivial)⟩, ⟨by exact Kd.R_mono (Kd.R_far (p := ⟨gb495, 0, none⟩) (Kd.R_types HO_6.out BK495.out (by decide)) (fun _ hk => hk.2) (.slice Ao103 t497.length co103)) (fun _ hk => trivial)⟩, ⟨by exact Kd.R_mono (Kd.R_far (p := ⟨gb495, 0, none⟩) (Kd.R_types HO_484000.out BK495.out (by decide)) (fun _ hk => hk.2) (.slice Ao103 t497.length co103)) (fun _ hk => ⟨hk.1.1, hk.1.2.1⟩)⟩, ⟨by exact Kd.R_mono (Kd.R_far (p := ⟨gb495, 0, none⟩) (Kd.R_types HO_489000.out BK495.out (by decide)) (fun _ hk => hk.2) (.slice Ao103 t497.length co103)) (fun _ hk => ⟨hk.1.1, ⟨hk.1.2.1, hk.1.2.2.2⟩⟩)⟩, ⟨by exact Kd.R_mono (Kd.R_far (p := ⟨gb495, 0, none⟩) (Kd.R_types HO_494000.out BK495.out (by decide)) (fun _ hk => hk.2) (.slice Ao103 t497.length co103)) (fun _ hk => ⟨hk.1.1, ⟨hk.1.2.1, hk.1.2.2.2⟩⟩)⟩, ⟨by exact Kd.R_mono (Kd.R_far (p := ⟨gb495, 0, none⟩) (Kd.R_types HO499.out BK495.out (by decide)) (fun _ hk => hk.2) (.slice Ao103 t497.length co103)) (fun _ hk => ⟨hk.1.2.1, hk.1.2.2.1⟩)⟩, ⟨be⟩, ⟨be⟩, ⟨be⟩, ⟨bp #[.slice Ao98 x496000_2.length co98] 0⟩, ⟨hS⟩⟩
       replace c46 := Bool.eq_false_iff.mpr c46
       subst c46
       have H1 : (some false) = some r := by rw [if_neg (show ¬ (false = true) by decide)] at H; exact H
       clear H
       have H := H1
       clear H1
       exact absurd ((Option.some.inj H).trans hT.out) (by decide)
      rw [if_neg c44] at H
      exact absurd H (by simp)
     rw [if_neg c43] at H
     exact absurd H (by simp)
    rw [if_neg c42] at H
    have c42b0 : decide (x12_2 < t487) = false := decide_eq_false c42
    clear c42
    replace H := bm H
    obtain ⟨⟨t512, t515⟩, A1190, H⟩ := H
    replace H : ((spec_CutActs.f k2 t473 t476 t479 t480).bind fun bt517 => (if (t515 == bt517.2) = true then ((laws_sameDisk.f k2 t512 bt517.1).bind fun t522 => (if t522 = true then (if t487 = 0 then (some true) else ((laws_sameDisk.f k2 x496000_2 t484).bind fun t523 => (some t523))) else (some false))) else (some false))) = some r := H
    have A119 := AM A1190
    clear A1190
    replace H := bm H
    obtain ⟨⟨t517, t520⟩, A1200, H⟩ := H
    replace H : (if (t515 == t520) = true then ((laws_sameDisk.f k2 t512 t517).bind fun t522 => (if t522 = true then (if t487 = 0 then (some true) else ((laws_sameDisk.f k2 x496000_2 t484).bind fun t523 => (some t523))) else (some false))) else (some false)) = some r := H
    have A120 := AM A1200
    clear A1200
    by_cases c121 : (t515 == t520) = true
    ·rw [if_pos c121] at H
     have c121b0 : (t515 == t520) = true := c121
     (try (have c121b1 : decide (t515 = t520) = true := by simpa using c121))
     (try (have c121b2 : (t515 == t520) = true := by simpa using c121))
     clear c121
     replace H := bm H
     obtain ⟨t522, A1220, H⟩ := H
     replace H : (if t522 = true then (if t487 = 0 then (some true) else ((laws_sameDisk.f k2 x496000_2 t484).bind fun t523 => (some t523))) else (some false)) = some r := H
     have A122 := AM A1220
     clear A1220
     by_cases c123 : t522 = true
     ·subst c123
      have H1 : (if t487 = 0 then (some true) else ((laws_sameDisk.f k2 x496000_2 t484).bind fun t523 => (some t523))) = some r := by rw [if_pos rfl] at H; exact H
      clear H
      have H := H1
      clear H1
      by_cases c124 : t487 = 0
      ·rw [if_pos c124] at H
       have c124b0 : (t487 == 0) = true := beq_iff_eq.mpr c124
       have c124b1 : (t487 != 0) = false := bne_eq_false_iff_eq.mpr c124
       clear c124
       obtain rfl := Option.some.inj H
       have hnb125 := NB483_488.out
       have hnc125 := NB488_483.out
       have hnb126 := NB483_493.out
       have hnc126 := NB493_483.out
       have hnb127 := NB483_495.out
       have hnc127 := NB495_483.out
       have hcz128_0 := bv BK483 0 (.slice Ao10 t473.length co10)
       have hfz128_0 := bz BK483 0
       obtain ⟨Ao129, co129, eo129⟩ := Kd.R_slice HO_6.out
       subst eo129
       go_wp2_with (first | ((with_reducible refine gc 30 rfl ?_); refine gl 128 Try.func30 #[.agg #[.slice Ao10 t473.length co10], .slice Ao12 t476.length co12, .int .i64 t479, .slice Ao129 t480.length co129] ?_; (with_reducible refine (impl_CutActs.calls k2 _ _ t473 _ _ t476 t479 _ _ t480 t512 t515 _ ?side1 ?side2 ?side3 ?side4 ?side5 ?side6 A119.out).mono ?_); (case side1 => repeat (first | exact (Kd.R_reads' HO_484000.out).2.2 | (with_reducible first | refine cA ?_ _ | refine cN ?_ _ | refine cD ?_))); (case side2 => exact (Kd.R_reads' HO_484000.out).2.1); (case side3 => repeat (first | exact (Kd.R_reads' HO_4.out).2.2 | (with_reducible first | refine cA ?_ _ | refine cN ?_ _ | refine cD ?_))); (case side4 => exact (Kd.R_reads' HO_4.out).2.1); (case side5 => repeat (first | exact (Kd.R_reads' HO_6.out).2.2 | (with_reducible first | refine cA ?_ _ | refine cN ?_ _ | refine cD ?_))); (case side6 => exact (Kd.R_reads' HO_6.out).2.1); rintro e w130 ⟨v513, rfl, ho0, hb⟩; refine ⟨_, rfl, ?_⟩; replace HO_4 := AM (Kd.R_below (by exact HO_4.out) hb); replace HO_6 := AM (Kd.R_below (by exact HO_6.out) hb); have HO514 := AM (Kd.R_lower (Kd.R_new' (Kd.R_new' (Kd.R_new' (Kd.R_new' ho0 (Kd.R_lt (by exact HO_484000.out))) (Kd.R_lt (by exact HO_489000.out))) (Kd.R_lt (by exact HO_494000.out))) (Kd.R_lt (by exact HO_496000.out))) (below_size (hS))); replace HO_484000 := AM (Kd.R_elder' (by exact HO_484000.out) (Kd.R_base ho0) hb); replace HO_489000 := AM (Kd.R_elder' (by exact HO_489000.out) (Kd.R_base ho0) hb); replace HO_494000 := AM (Kd.R_elder' (by exact HO_494000.out) (Kd.R_base ho0) hb); replace HO_496000 := AM (Kd.R_elder' (by exact HO_496000.out) (Kd.R_base ho0) hb); replace BK483 := bw BK483 hb; replace BK488 := bw BK488 hb; replace BK493 := bw BK493 hb; replace BK495 := bw BK495 hb; replace HB := AM (below_step (hS) hb); (try clear hb); (try clear ho0)) | ((with_reducible refine gd 19 rfl ?_); refine bx (N := 19) (cs := #[.slice none 0 0]) (t := 30) ?_; intro gb516 hg w131 hbox hb; replace HO_4 := AM (Kd.R_below (by exact HO_4.out) hb); replace HO_6 := AM (Kd.R_below (by exact HO_6.out) hb); replace HO_484000 := AM (Kd.R_below (by exact HO_484000.out) hb); replace HO_489000 := AM (Kd.R_below (by exact HO_489000.out) hb); replace HO_494000 := AM (Kd.R_below (by exact HO_494000.out) hb); replace HO_496000 := AM (Kd.R_below (by exact HO_496000.out) hb); replace HO514 := AM (Kd.R_below (by exact HO514.out) hb); have BK516 := AM (hbox); have GW516 := AM (bt hg hS); have GE516 := AM (bt hg hS); replace HB := AM (below_step (hS) hb); have NB483_516 := AM (nl hg (bk BK483)); have NB516_483 := AM (ng hg (bk BK483)); replace BK483 := bw BK483 hb; have NB488_516 := AM (nl hg (bk BK488)); have NB516_488 := AM (ng hg (bk BK488)); replace BK488 := bw BK488 hb; have NB493_516 := AM (nl hg (bk BK493)); have NB516_493 := AM (ng hg (bk BK493)); replace BK493 := bw BK493 hb; have NB495_516 := AM (nl hg (bk BK495)); have NB516_495 := AM (ng hg (bk BK495)); replace BK495 := bw BK495 hb; clear hb hbox hg; obtain ⟨Ao132, co132, eo132⟩ := Kd.R_slice HO514.out; subst eo132; have hnb133 := NB516_483.out; have hnc133 := NB483_516.out; have hnb134 := NB516_488.out; have hnc134 := NB488_516.out; have hnb135 := NB516_493.out; have hnc135 := NB493_516.out; have hnb136 := NB516_495.out; have hnc136 := NB495_516.out; have hcz137_0 := bv BK516 0 (.slice none 0 0); have hfz137_0 := bz BK516 0; have hcz138_0 := bv BK483 0 (.slice Ao10 t473.length co10); have hfz138_0 := bz BK483 0) | ((with_reducible refine gc 28 rfl ?_); refine gl 136 Try.func28 #[.agg #[.slice Ao10 t473.length co10], .slice Ao12 t476.length co12, .int .i64 t479, .slice Ao129 t480.length co129] ?_; (with_reducible refine (spec_CutActs.calls k2 _ _ t473 _ _ t476 t479 _ _ t480 t517 t520 _ ?side1 ?side2 ?side3 ?side4 ?side5 ?side6 A120.out).mono ?_); (case side1 => refine (Kd.R_reads' (e := 67) (base := w.heap.size) (ok := fun k_ => ((some k_ ≠ (.slice Ao15 t484.length co15 : Value).ownBlock ∧ some k_ ≠ (.slice Ao21 t489.length co21 : Value).ownBlock) ∧ some k_ ≠ (.slice Ao132 t512.length co132 : Value).ownBlock)) (n := t473.length) (c := co10) ?_).2.2; exact (by exact (Kd.R_mono (Kd.R_far (p := ⟨gb516, 0, none⟩) (Kd.R_types HO_484000.out BK516.out (by decide)) (fun _ hk => hk.2) (.slice Ao132 t512.length co132)) (fun _ h_ => h_.1)))); (case side2 => exact (Kd.R_reads' HO_484000.out).2.1); (case side3 => refine (Kd.R_reads' (e := 41) (base := w.heap.size) (ok := fun k_ => True) (n := t476.length) (c := co12) ?_).2.2; exact (by exact (Kd.R_mono (Kd.R_far (p := ⟨gb516, 0, none⟩) (Kd.R_types HO_4.out BK516.out (by decide)) (fun _ hk => hk.2) (.slice Ao132 t512.length co132)) (fun _ h_ => h_.1)))); (case side4 => exact (Kd.R_reads' HO_4.out).2.1); (case side5 => refine (Kd.R_reads' (e := 3) (base := w.heap.size) (ok := fun k_ => True) (n := t480.length) (c := co129) ?_).2.2; exact (by exact (Kd.R_mono (Kd.R_far (p := ⟨gb516, 0, none⟩) (Kd.R_types HO_6.out BK516.out (by decide)) (fun _ hk => hk.2) (.slice Ao132 t512.length co132)) (fun _ h_ => h_.1)))); (case side6 => exact (Kd.R_reads' HO_6.out).2.1); rintro e w139 ⟨v518, rfl, ho0, hb⟩; refine ⟨_, rfl, ?_⟩; have n0_ := AM (Kd.R_below (by exact (Kd.R_mono (Kd.R_far (p := ⟨gb516, 0, none⟩) (Kd.R_types HO_4.out BK516.out (by decide)) (fun _ hk => hk.2) (.slice Ao132 t512.length co132)) (fun _ h_ => h_.1))) hb); have n1_ := AM (Kd.R_below (by exact (Kd.R_mono (Kd.R_far (p := ⟨gb516, 0, none⟩) (Kd.R_types HO_6.out BK516.out (by decide)) (fun _ hk => hk.2) (.slice Ao132 t512.length co132)) (fun _ h_ => h_.1))) hb); have n2_ := AM (Kd.R_elder' (by exact (Kd.R_mono (Kd.R_far (p := ⟨gb516, 0, none⟩) (Kd.R_types HO_484000.out BK516.out (by decide)) (fun _ hk => hk.2) (.slice Ao132 t512.length co132)) (fun _ h_ => h_.1))) (Kd.R_base ho0) hb); have n3_ := AM (Kd.R_elder' (by exact (Kd.R_mono (Kd.R_far (p := ⟨gb516, 0, none⟩) (Kd.R_types HO_489000.out BK516.out (by decide)) (fun _ hk => hk.2) (.slice Ao132 t512.length co132)) (fun _ h_ => h_.1))) (Kd.R_base ho0) hb); have n4_ := AM (Kd.R_elder' (by exact (Kd.R_mono (Kd.R_far (p := ⟨gb516, 0, none⟩) (Kd.R_types HO_494000.out BK516.out (by decide)) (fun _ hk => hk.2) (.slice Ao132 t512.length co132)) (fun _ h_ => h_.1))) (Kd.R_base ho0) hb); have n5_ := AM (Kd.R_elder' (by exact (Kd.R_mono (Kd.R_far (p := ⟨gb516, 0, none⟩) (Kd.R_types HO_496000.out BK516.out (by decide)) (fun _ hk => hk.2) (.slice Ao132 t512.length co132)) (fun _ h_ => h_.1))) (Kd.R_base ho0) hb); have n6_ := AM (Kd.R_elder' (by exact (Kd.R_mono (Kd.R_far (p := ⟨gb516, 0, none⟩) (Kd.R_types HO514.out BK516.out (by decide)) (fun _ hk => hk.2) (.slice Ao132 t512.length co132)) (fun _ h_ => h_.1))) (Kd.R_base ho0) hb); have n7_ := AM (Kd.R_lower (Kd.R_new' (Kd.R_new' (Kd.R_new' (Kd.R_new' (Kd.R_new' ho0 (Kd.R_lt (by exact (Kd.R_mono (Kd.R_far (p := ⟨gb516, 0, none⟩) (Kd.R_types HO_484000.out BK516.out (by decide)) (fun _ hk => hk.2) (.slice Ao132 t512.length co132)) (fun _ h_ => h_.1))))) (Kd.R_lt (by exact (Kd.R_mono (Kd.R_far (p := ⟨gb516, 0, none⟩) (Kd.R_types HO_489000.out BK516.out (by decide)) (fun _ hk => hk.2) (.slice Ao132 t512.length co132)) (fun _ h_ => h_.1))))) (Kd.R_lt (by exact (Kd.R_mono (Kd.R_far (p := ⟨gb516, 0, none⟩) (Kd.R_types HO_494000.out BK516.out (by decide)) (fun _ hk => hk.2) (.slice Ao132 t512.length co132)) (fun _ h_ => h_.1))))) (Kd.R_lt (by exact (Kd.R_mono (Kd.R_far (p := ⟨gb516, 0, none⟩) (Kd.R_types HO_496000.out BK516.out (by decide)) (fun _ hk => hk.2) (.slice Ao132 t512.length co132)) (fun _ h_ => h_.1))))) (Kd.R_lt (by exact (Kd.R_mono (Kd.R_far (p := ⟨gb516, 0, none⟩) (Kd.R_types HO514.out BK516.out (by decide)) (fun _ hk => hk.2) (.slice Ao132 t512.length co132)) (fun _ h_ => h_.1))))) (below_size (hS))); have n8_ := AM (blk_below (g := gb483) (o := .cells #[.slice Ao10 t473.length co10] 30 (0, 0)) (be) hb); have n9_ := AM (blk_below (g := gb488) (o := .cells #[.slice Ao15 t484.length co15] 30 (0, 0)) (be) hb); have n10_ := AM (blk_below (g := gb493) (o := .cells #[.slice Ao21 t489.length co21] 30 (0, 0)) (be) hb); have n11_ := AM (blk_below (g := gb495) (o := .cells #[u496000] 30 (0, 0)) (be) hb); have n12_ := AM (blk_below (g := gb516) (o := .cells #[.slice Ao132 t512.length co132] 30 (0, 0)) (bp #[.slice none 0 0] 0) hb); have n13_ := AM (below_step (hS) hb); clear HO_4; clear HO_6; clear HO_484000; clear HO_489000; clear HO_494000; clear HO_496000; clear HO514; clear BK483; clear BK488; clear BK493; clear BK495; clear BK516; clear HB; have HO_4 := n0_; have HO_6 := n1_; have HO_484000 := n2_; have HO_489000 := n3_; have HO_494000 := n4_; have HO_496000 := n5_; have HO514 := n6_; have HO519 := n7_; have BK483 := n8_; have BK488 := n9_; have BK493 := n10_; have BK495 := n11_; have BK516 := n12_; have HB := n13_; clear n0_ n1_ n2_ n3_ n4_ n5_ n6_ n7_ n8_ n9_ n10_ n11_ n12_ n13_; (try clear hb); (try clear hk); (try clear ho0)) | ((with_reducible refine gd 21 rfl ?_); refine bx (N := 21) (cs := #[.slice none 0 0]) (t := 30) ?_; intro gb521 hg w140 hbox hb; replace HO_4 := AM (Kd.R_below (by exact HO_4.out) hb); replace HO_6 := AM (Kd.R_below (by exact HO_6.out) hb); replace HO_484000 := AM (Kd.R_below (by exact HO_484000.out) hb); replace HO_489000 := AM (Kd.R_below (by exact HO_489000.out) hb); replace HO_494000 := AM (Kd.R_below (by exact HO_494000.out) hb); replace HO_496000 := AM (Kd.R_below (by exact HO_496000.out) hb); replace HO514 := AM (Kd.R_below (by exact HO514.out) hb); replace HO519 := AM (Kd.R_below (by exact HO519.out) hb); have BK521 := AM (hbox); have GW521 := AM (bt hg hS); have GE521 := AM (bt hg hS); replace HB := AM (below_step (hS) hb); have NB483_521 := AM (nl hg (bk BK483)); have NB521_483 := AM (ng hg (bk BK483)); replace BK483 := bw BK483 hb; have NB488_521 := AM (nl hg (bk BK488)); have NB521_488 := AM (ng hg (bk BK488)); replace BK488 := bw BK488 hb; have NB493_521 := AM (nl hg (bk BK493)); have NB521_493 := AM (ng hg (bk BK493)); replace BK493 := bw BK493 hb; have NB495_521 := AM (nl hg (bk BK495)); have NB521_495 := AM (ng hg (bk BK495)); replace BK495 := bw BK495 hb; have NB516_521 := AM (nl hg (bk BK516)); have NB521_516 := AM (ng hg (bk BK516)); replace BK516 := bw BK516 hb; clear hb hbox hg; obtain ⟨Ao141, co141, eo141⟩ := Kd.R_slice HO519.out; subst eo141; have hnb142 := NB521_483.out; have hnc142 := NB483_521.out; have hnb143 := NB521_488.out; have hnc143 := NB488_521.out; have hnb144 := NB521_493.out; have hnc144 := NB493_521.out; have hnb145 := NB521_495.out; have hnc145 := NB495_521.out; have hnb146 := NB521_516.out; have hnc146 := NB516_521.out; have hcz147_0 := bv BK521 0 (.slice none 0 0); have hfz147_0 := bz BK521 0; have hcz148_0 := bv BK516 0 (.slice Ao132 t512.length co132); have hfz148_0 := bz BK516 0) | (go_at_call 35; (with_reducible refine (laws_sameDisk.calls k2 _ _ t512 _ _ t517 true _ ?side1 ?side2 ?side3 ?side4 A122.out).mono ?_); (case side1 => refine (Kd.R_reads' (e := 67) (base := w.heap.size) (ok := fun k_ => (((((True ∧ some k_ ≠ (.slice Ao10 t473.length co10 : Value).ownBlock) ∧ some k_ ≠ (.slice Ao15 t484.length co15 : Value).ownBlock) ∧ some k_ ≠ (.slice Ao21 t489.length co21 : Value).ownBlock) ∧ some k_ ≠ (u496000 : Value).ownBlock) ∧ some k_ ≠ (.slice Ao141 t517.length co141 : Value).ownBlock)) (n := t512.length) (c := co132) ?_).2.2; exact (by exact (Kd.R_mono (Kd.R_far (p := ⟨gb521, 0, none⟩) (Kd.R_types HO514.out BK521.out (by decide)) (fun _ hk => hk.2) (.slice Ao141 t517.length co141)) (fun _ h_ => h_.1)))); (case side2 => exact (Kd.R_reads' HO514.out).2.1); (case side3 => refine (Kd.R_reads' (e := 67) (base := w.heap.size) (ok := fun k_ => (((((True ∧ some k_ ≠ (.slice Ao10 t473.length co10 : Value).ownBlock) ∧ some k_ ≠ (.slice Ao15 t484.length co15 : Value).ownBlock) ∧ some k_ ≠ (.slice Ao21 t489.length co21 : Value).ownBlock) ∧ some k_ ≠ (u496000 : Value).ownBlock) ∧ some k_ ≠ (.slice Ao132 t512.length co132 : Value).ownBlock)) (n := t517.length) (c := co141) ?_).2.2; exact (by exact (Kd.R_mono (Kd.R_far (p := ⟨gb521, 0, none⟩) (Kd.R_types HO519.out BK521.out (by decide)) (fun _ hk => hk.2) (.slice Ao141 t517.length co141)) (fun _ h_ => h_.1)))); (case side4 => exact (Kd.R_reads' HO519.out).2.1); rintro e w149 ⟨rfl, hb⟩; have n0_ := AM (Kd.R_below (by exact (Kd.R_mono (Kd.R_far (p := ⟨gb521, 0, none⟩) (Kd.R_types HO_4.out BK521.out (by decide)) (fun _ hk => hk.2) (.slice Ao141 t517.length co141)) (fun _ h_ => h_.1))) hb); have n1_ := AM (Kd.R_below (by exact (Kd.R_mono (Kd.R_far (p := ⟨gb521, 0, none⟩) (Kd.R_types HO_6.out BK521.out (by decide)) (fun _ hk => hk.2) (.slice Ao141 t517.length co141)) (fun _ h_ => h_.1))) hb); have n2_ := AM (Kd.R_below (by exact (Kd.R_mono (Kd.R_far (p := ⟨gb521, 0, none⟩) (Kd.R_types HO_484000.out BK521.out (by decide)) (fun _ hk => hk.2) (.slice Ao141 t517.length co141)) (fun _ h_ => h_.1))) hb); have n3_ := AM (Kd.R_below (by exact (Kd.R_mono (Kd.R_far (p := ⟨gb521, 0, none⟩) (Kd.R_types HO_489000.out BK521.out (by decide)) (fun _ hk => hk.2) (.slice Ao141 t517.length co141)) (fun _ h_ => h_.1))) hb); have n4_ := AM (Kd.R_below (by exact (Kd.R_mono (Kd.R_far (p := ⟨gb521, 0, none⟩) (Kd.R_types HO_494000.out BK521.out (by decide)) (fun _ hk => hk.2) (.slice Ao141 t517.length co141)) (fun _ h_ => h_.1))) hb); have n5_ := AM (Kd.R_below (by exact (Kd.R_mono (Kd.R_far (p := ⟨gb521, 0, none⟩) (Kd.R_types HO_496000.out BK521.out (by decide)) (fun _ hk => hk.2) (.slice Ao141 t517.length co141)) (fun _ h_ => h_.1))) hb); have n6_ := AM (Kd.R_below (by exact (Kd.R_mono (Kd.R_far (p := ⟨gb521, 0, none⟩) (Kd.R_types HO514.out BK521.out (by decide)) (fun _ hk => hk.2) (.slice Ao141 t517.length co141)) (fun _ h_ => h_.1))) hb); have n7_ := AM (Kd.R_below (by exact (Kd.R_mono (Kd.R_far (p := ⟨gb521, 0, none⟩) (Kd.R_types HO519.out BK521.out (by decide)) (fun _ hk => hk.2) (.slice Ao141 t517.length co141)) (fun _ h_ => h_.1))) hb); have n8_ := AM (blk_below (g := gb483) (o := .cells #[.slice Ao10 t473.length co10] 30 (0, 0)) (be) hb); have n9_ := AM (blk_below (g := gb488) (o := .cells #[.slice Ao15 t484.length co15] 30 (0, 0)) (be) hb); have n10_ := AM (blk_below (g := gb493) (o := .cells #[.slice Ao21 t489.length co21] 30 (0, 0)) (be) hb); have n11_ := AM (blk_below (g := gb495) (o := .cells #[u496000] 30 (0, 0)) (be) hb); have n12_ := AM (blk_below (g := gb516) (o := .cells #[.slice Ao132 t512.length co132] 30 (0, 0)) (be) hb); have n13_ := AM (blk_below (g := gb521) (o := .cells #[.slice Ao141 t517.length co141] 30 (0, 0)) (bp #[.slice none 0 0] 0) hb); have n14_ := AM (below_step (hS) hb); clear HO_4; clear HO_6; clear HO_484000; clear HO_489000; clear HO_494000; clear HO_496000; clear HO514; clear HO519; clear BK483; clear BK488; clear BK493; clear BK495; clear BK516; clear BK521; clear HB; have HO_4 := n0_; have HO_6 := n1_; have HO_484000 := n2_; have HO_489000 := n3_; have HO_494000 := n4_; have HO_496000 := n5_; have HO514 := n6_; have HO519 := n7_; have BK483 := n8_; have BK488 := n9_; have BK493 := n10_; have BK495 := n11_; have BK516 := n12_; have BK521 := n13_; have HB := n14_; clear n0_ n1_ n2_ n3_ n4_ n5_ n6_ n7_ n8_ n9_ n10_ n11_ n12_ n13_ n14_; (try clear hb); (try clear hk)))
       go_ret
       exact ⟨er, hS⟩
      rw [if_neg c124] at H
      have c124b0 : (t487 == 0) = false := beq_eq_false_iff_ne.mpr c124
      have c124b1 : (t487 != 0) = true := bne_iff_ne.mpr c124
      replace H := bm H
      obtain ⟨t523, A1500, H⟩ := H
      replace H : (some t523) = some r := H
      have A150 := AM A1500
      clear A1500
      obtain rfl := Option.some.inj H
      have hnb151 := NB483_488.out
      have hnc151 := NB488_483.out
      have hnb152 := NB483_493.out
      have hnc152 := NB493_483.out
      have hnb153 := NB483_495.out
      have hnc153 := NB495_483.out
      have hcz154_0 := bv BK483 0 (.slice Ao10 t473.length co10)
      have hfz154_0 := bz BK483 0
      obtain ⟨Ao155, co155, eo155⟩ := Kd.R_slice HO_6.out
      subst eo155
      go_wp2_with (first | ((with_reducible refine gc 30 rfl ?_); refine gl 128 Try.func30 #[.agg #[.slice Ao10 t473.length co10], .slice Ao12 t476.length co12, .int .i64 t479, .slice Ao155 t480.length co155] ?_; (with_reducible refine (impl_CutActs.calls k2 _ _ t473 _ _ t476 t479 _ _ t480 t512 t515 _ ?side1 ?side2 ?side3 ?side4 ?side5 ?side6 A119.out).mono ?_); (case side1 => repeat (first | exact (Kd.R_reads' HO_484000.out).2.2 | (with_reducible first | refine cA ?_ _ | refine cN ?_ _ | refine cD ?_))); (case side2 => exact (Kd.R_reads' HO_484000.out).2.1); (case side3 => repeat (first | exact (Kd.R_reads' HO_4.out).2.2 | (with_reducible first | refine cA ?_ _ | refine cN ?_ _ | refine cD ?_))); (case side4 => exact (Kd.R_reads' HO_4.out).2.1); (case side5 => repeat (first | exact (Kd.R_reads' HO_6.out).2.2 | (with_reducible first | refine cA ?_ _ | refine cN ?_ _ | refine cD ?_))); (case side6 => exact (Kd.R_reads' HO_6.out).2.1); rintro e w156 ⟨v513, rfl, ho0, hb⟩; refine ⟨_, rfl, ?_⟩; replace HO_4 := AM (Kd.R_below (by exact HO_4.out) hb); replace HO_6 := AM (Kd.R_below (by exact HO_6.out) hb); have HO514 := AM (Kd.R_lower (Kd.R_new' (Kd.R_new' (Kd.R_new' (Kd.R_new' ho0 (Kd.R_lt (by exact HO_484000.out))) (Kd.R_lt (by exact HO_489000.out))) (Kd.R_lt (by exact HO_494000.out))) (Kd.R_lt (by exact HO_496000.out))) (below_size (hS))); replace HO_484000 := AM (Kd.R_elder' (by exact HO_484000.out) (Kd.R_base ho0) hb); replace HO_489000 := AM (Kd.R_elder' (by exact HO_489000.out) (Kd.R_base ho0) hb); replace HO_494000 := AM (Kd.R_elder' (by exact HO_494000.out) (Kd.R_base ho0) hb); replace HO_496000 := AM (Kd.R_elder' (by exact HO_496000.out) (Kd.R_base ho0) hb); replace BK483 := bw BK483 hb; replace BK488 := bw BK488 hb; replace BK493 := bw BK493 hb; replace BK495 := bw BK495 hb; replace HB := AM (below_step (hS) hb); (try clear hb); (try clear ho0)) | ((with_reducible refine gd 19 rfl ?_); refine bx (N := 19) (cs := #[.slice none 0 0]) (t := 30) ?_; intro gb516 hg w157 hbox hb; replace HO_4 := AM (Kd.R_below (by exact HO_4.out) hb); replace HO_6 := AM (Kd.R_below (by exact HO_6.out) hb); replace HO_484000 := AM (Kd.R_below (by exact HO_484000.out) hb); replace HO_489000 := AM (Kd.R_below (by exact HO_489000.out) hb); replace HO_494000 := AM (Kd.R_below (by exact HO_494000.out) hb); replace HO_496000 := AM (Kd.R_below (by exact HO_496000.out) hb); replace HO514 := AM (Kd.R_below (by exact HO514.out) hb); have BK516 := AM (hbox); have GW516 := AM (bt hg hS); have GE516 := AM (bt hg hS); replace HB := AM (below_step (hS) hb); have NB483_516 := AM (nl hg (bk BK483)); have NB516_483 := AM (ng hg (bk BK483)); replace BK483 := bw BK483 hb; have NB488_516 := AM (nl hg (bk BK488)); have NB516_488 := AM (ng hg (bk BK488)); replace BK488 := bw BK488 hb; have NB493_516 := AM (nl hg (bk BK493)); have NB516_493 := AM (ng hg (bk BK493)); replace BK493 := bw BK493 hb; have NB495_516 := AM (nl hg (bk BK495)); have NB516_495 := AM (ng hg (bk BK495)); replace BK495 := bw BK495 hb; clear hb hbox hg; obtain ⟨Ao158, co158, eo158⟩ := Kd.R_slice HO514.out; subst eo158; have hnb159 := NB516_483.out; have hnc159 := NB483_516.out; have hnb160 := NB516_488.out; have hnc160 := NB488_516.out; have hnb161 := NB516_493.out; have hnc161 := NB493_516.out; have hnb162 := NB516_495.out; have hnc162 := NB495_516.out; have hcz163_0 := bv BK516 0 (.slice none 0 0); have hfz163_0 := bz BK516 0; have hcz164_0 := bv BK483 0 (.slice Ao10 t473.length co10); have hfz164_0 := bz BK483 0) | ((with_reducible refine gc 28 rfl ?_); refine gl 136 Try.func28 #[.agg #[.slice Ao10 t473.length co10], .slice Ao12 t476.length co12, .int .i64 t479, .slice Ao155 t480.length co155] ?_; (with_reducible refine (spec_CutActs.calls k2 _ _ t473 _ _ t476 t479 _ _ t480 t517 t520 _ ?side1 ?side2 ?side3 ?side4 ?side5 ?side6 A120.out).mono ?_); (case side1 => refine (Kd.R_reads' (e := 67) (base := w.heap.size) (ok := fun k_ => ((some k_ ≠ (.slice Ao15 t484.length co15 : Value).ownBlock ∧ some k_ ≠ (.slice Ao21 t489.length co21 : Value).ownBlock) ∧ some k_ ≠ (.slice Ao158 t512.length co158 : Value).ownBlock)) (n := t473.length) (c := co10) ?_).2.2; exact (by exact (Kd.R_mono (Kd.R_far (p := ⟨gb516, 0, none⟩) (Kd.R_types HO_484000.out BK516.out (by decide)) (fun _ hk => hk.2) (.slice Ao158 t512.length co158)) (fun _ h_ => h_.1)))); (case side2 => exact (Kd.R_reads' HO_484000.out).2.1); (case side3 => refine (Kd.R_reads' (e := 41) (base := w.heap.size) (ok := fun k_ => True) (n := t476.length) (c := co12) ?_).2.2; exact (by exact (Kd.R_mono (Kd.R_far (p := ⟨gb516, 0, none⟩) (Kd.R_types HO_4.out BK516.out (by decide)) (fun _ hk => hk.2) (.slice Ao158 t512.length co158)) (fun _ h_ => h_.1)))); (case side4 => exact (Kd.R_reads' HO_4.out).2.1); (case side5 => refine (Kd.R_reads' (e := 3) (base := w.heap.size) (ok := fun k_ => True) (n := t480.length) (c := co155) ?_).2.2; exact (by exact (Kd.R_mono (Kd.R_far (p := ⟨gb516, 0, none⟩) (Kd.R_types HO_6.out BK516.out (by decide)) (fun _ hk => hk.2) (.slice Ao158 t512.length co158)) (fun _ h_ => h_.1)))); (case side6 => exact (Kd.R_reads' HO_6.out).2.1); rintro e w165 ⟨v518, rfl, ho0, hb⟩; refine ⟨_, rfl, ?_⟩; have n0_ := AM (Kd.R_below (by exact (Kd.R_mono (Kd.R_far (p := ⟨gb516, 0, none⟩) (Kd.R_types HO_4.out BK516.out (by decide)) (fun _ hk => hk.2) (.slice Ao158 t512.length co158)) (fun _ h_ => h_.1))) hb); have n1_ := AM (Kd.R_below (by exact (Kd.R_mono (Kd.R_far (p := ⟨gb516, 0, none⟩) (Kd.R_types HO_6.out BK516.out (by decide)) (fun _ hk => hk.2) (.slice Ao158 t512.length co158)) (fun _ h_ => h_.1))) hb); have n2_ := AM (Kd.R_elder' (by exact (Kd.R_mono (Kd.R_far (p := ⟨gb516, 0, none⟩) (Kd.R_types HO_484000.out BK516.out (by decide)) (fun _ hk => hk.2) (.slice Ao158 t512.length co158)) (fun _ h_ => h_.1))) (Kd.R_base ho0) hb); have n3_ := AM (Kd.R_elder' (by exact (Kd.R_mono (Kd.R_far (p := ⟨gb516, 0, none⟩) (Kd.R_types HO_489000.out BK516.out (by decide)) (fun _ hk => hk.2) (.slice Ao158 t512.length co158)) (fun _ h_ => h_.1))) (Kd.R_base ho0) hb); have n4_ := AM (Kd.R_elder' (by exact (Kd.R_mono (Kd.R_far (p := ⟨gb516, 0, none⟩) (Kd.R_types HO_494000.out BK516.out (by decide)) (fun _ hk => hk.2) (.slice Ao158 t512.length co158)) (fun _ h_ => h_.1))) (Kd.R_base ho0) hb); have n5_ := AM (Kd.R_elder' (by exact (Kd.R_mono (Kd.R_far (p := ⟨gb516, 0, none⟩) (Kd.R_types HO_496000.out BK516.out (by decide)) (fun _ hk => hk.2) (.slice Ao158 t512.length co158)) (fun _ h_ => h_.1))) (Kd.R_base ho0) hb); have n6_ := AM (Kd.R_elder' (by exact (Kd.R_mono (Kd.R_far (p := ⟨gb516, 0, none⟩) (Kd.R_types HO514.out BK516.out (by decide)) (fun _ hk => hk.2) (.slice Ao158 t512.length co158)) (fun _ h_ => h_.1))) (Kd.R_base ho0) hb); have n7_ := AM (Kd.R_lower (Kd.R_new' (Kd.R_new' (Kd.R_new' (Kd.R_new' (Kd.R_new' ho0 (Kd.R_lt (by exact (Kd.R_mono (Kd.R_far (p := ⟨gb516, 0, none⟩) (Kd.R_types HO_484000.out BK516.out (by decide)) (fun _ hk => hk.2) (.slice Ao158 t512.length co158)) (fun _ h_ => h_.1))))) (Kd.R_lt (by exact (Kd.R_mono (Kd.R_far (p := ⟨gb516, 0, none⟩) (Kd.R_types HO_489000.out BK516.out (by decide)) (fun _ hk => hk.2) (.slice Ao158 t512.length co158)) (fun _ h_ => h_.1))))) (Kd.R_lt (by exact (Kd.R_mono (Kd.R_far (p := ⟨gb516, 0, none⟩) (Kd.R_types HO_494000.out BK516.out (by decide)) (fun _ hk => hk.2) (.slice Ao158 t512.length co158)) (fun _ h_ => h_.1))))) (Kd.R_lt (by exact (Kd.R_mono (Kd.R_far (p := ⟨gb516, 0, none⟩) (Kd.R_types HO_496000.out BK516.out (by decide)) (fun _ hk => hk.2) (.slice Ao158 t512.length co158)) (fun _ h_ => h_.1))))) (Kd.R_lt (by exact (Kd.R_mono (Kd.R_far (p := ⟨gb516, 0, none⟩) (Kd.R_types HO514.out BK516.out (by decide)) (fun _ hk => hk.2) (.slice Ao158 t512.length co158)) (fun _ h_ => h_.1))))) (below_size (hS))); have n8_ := AM (blk_below (g := gb483) (o := .cells #[.slice Ao10 t473.length co10] 30 (0, 0)) (be) hb); have n9_ := AM (blk_below (g := gb488) (o := .cells #[.slice Ao15 t484.length co15] 30 (0, 0)) (be) hb); have n10_ := AM (blk_below (g := gb493) (o := .cells #[.slice Ao21 t489.length co21] 30 (0, 0)) (be) hb); have n11_ := AM (blk_below (g := gb495) (o := .cells #[u496000] 30 (0, 0)) (be) hb); have n12_ := AM (blk_below (g := gb516) (o := .cells #[.slice Ao158 t512.length co158] 30 (0, 0)) (bp #[.slice none 0 0] 0) hb); have n13_ := AM (below_step (hS) hb); clear HO_4; clear HO_6; clear HO_484000; clear HO_489000; clear HO_494000; clear HO_496000; clear HO514; clear BK483; clear BK488; clear BK493; clear BK495; clear BK516; clear HB; have HO_4 := n0_; have HO_6 := n1_; have HO_484000 := n2_; have HO_489000 := n3_; have HO_494000 := n4_; have HO_496000 := n5_; have HO514 := n6_; have HO519 := n7_; have BK483 := n8_; have BK488 := n9_; have BK493 := n10_; have BK495 := n11_; have BK516 := n12_; have HB := n13_; clear n0_ n1_ n2_ n3_ n4_ n5_ n6_ n7_ n8_ n9_ n10_ n11_ n12_ n13_; (try clear hb); (try clear hk); (try clear ho0)) | ((with_reducible refine gd 21 rfl ?_); refine bx (N := 21) (cs := #[.slice none 0 0]) (t := 30) ?_; intro gb521 hg w166 hbox hb; replace HO_4 := AM (Kd.R_below (by exact HO_4.out) hb); replace HO_6 := AM (Kd.R_below (by exact HO_6.out) hb); replace HO_484000 := AM (Kd.R_below (by exact HO_484000.out) hb); replace HO_489000 := AM (Kd.R_below (by exact HO_489000.out) hb); replace HO_494000 := AM (Kd.R_below (by exact HO_494000.out) hb); replace HO_496000 := AM (Kd.R_below (by exact HO_496000.out) hb); replace HO514 := AM (Kd.R_below (by exact HO514.out) hb); replace HO519 := AM (Kd.R_below (by exact HO519.out) hb); have BK521 := AM (hbox); have GW521 := AM (bt hg hS); have GE521 := AM (bt hg hS); replace HB := AM (below_step (hS) hb); have NB483_521 := AM (nl hg (bk BK483)); have NB521_483 := AM (ng hg (bk BK483)); replace BK483 := bw BK483 hb; have NB488_521 := AM (nl hg (bk BK488)); have NB521_488 := AM (ng hg (bk BK488)); replace BK488 := bw BK488 hb; have NB493_521 := AM (nl hg (bk BK493)); have NB521_493 := AM (ng hg (bk BK493)); replace BK493 := bw BK493 hb; have NB495_521 := AM (nl hg (bk BK495)); have NB521_495 := AM (ng hg (bk BK495)); replace BK495 := bw BK495 hb; have NB516_521 := AM (nl hg (bk BK516)); have NB521_516 := AM (ng hg (bk BK516)); replace BK516 := bw BK516 hb; clear hb hbox hg; obtain ⟨Ao167, co167, eo167⟩ := Kd.R_slice HO519.out; subst eo167; have hnb168 := NB521_483.out; have hnc168 := NB483_521.out; have hnb169 := NB521_488.out; have hnc169 := NB488_521.out; have hnb170 := NB521_493.out; have hnc170 := NB493_521.out; have hnb171 := NB521_495.out; have hnc171 := NB495_521.out; have hnb172 := NB521_516.out; have hnc172 := NB516_521.out; have hcz173_0 := bv BK521 0 (.slice none 0 0); have hfz173_0 := bz BK521 0; have hcz174_0 := bv BK516 0 (.slice Ao158 t512.length co158); have hfz174_0 := bz BK516 0) | (go_at_call 35; (with_reducible refine (laws_sameDisk.calls k2 _ _ t512 _ _ t517 true _ ?side1 ?side2 ?side3 ?side4 A122.out).mono ?_); (case side1 => refine (Kd.R_reads' (e := 67) (base := w.heap.size) (ok := fun k_ => (((((True ∧ some k_ ≠ (.slice Ao10 t473.length co10 : Value).ownBlock) ∧ some k_ ≠ (.slice Ao15 t484.length co15 : Value).ownBlock) ∧ some k_ ≠ (.slice Ao21 t489.length co21 : Value).ownBlock) ∧ some k_ ≠ (u496000 : Value).ownBlock) ∧ some k_ ≠ (.slice Ao167 t517.length co167 : Value).ownBlock)) (n := t512.length) (c := co158) ?_).2.2; exact (by exact (Kd.R_mono (Kd.R_far (p := ⟨gb521, 0, none⟩) (Kd.R_types HO514.out BK521.out (by decide)) (fun _ hk => hk.2) (.slice Ao167 t517.length co167)) (fun _ h_ => h_.1)))); (case side2 => exact (Kd.R_reads' HO514.out).2.1); (case side3 => refine (Kd.R_reads' (e := 67) (base := w.heap.size) (ok := fun k_ => (((((True ∧ some k_ ≠ (.slice Ao10 t473.length co10 : Value).ownBlock) ∧ some k_ ≠ (.slice Ao15 t484.length co15 : Value).ownBlock) ∧ some k_ ≠ (.slice Ao21 t489.length co21 : Value).ownBlock) ∧ some k_ ≠ (u496000 : Value).ownBlock) ∧ some k_ ≠ (.slice Ao158 t512.length co158 : Value).ownBlock)) (n := t517.length) (c := co167) ?_).2.2; exact (by exact (Kd.R_mono (Kd.R_far (p := ⟨gb521, 0, none⟩) (Kd.R_types HO519.out BK521.out (by decide)) (fun _ hk => hk.2) (.slice Ao167 t517.length co167)) (fun _ h_ => h_.1)))); (case side4 => exact (Kd.R_reads' HO519.out).2.1); rintro e w175 ⟨rfl, hb⟩; have n0_ := AM (Kd.R_below (by exact (Kd.R_mono (Kd.R_far (p := ⟨gb521, 0, none⟩) (Kd.R_types HO_4.out BK521.out (by decide)) (fun _ hk => hk.2) (.slice Ao167 t517.length co167)) (fun _ h_ => h_.1))) hb); have n1_ := AM (Kd.R_below (by exact (Kd.R_mono (Kd.R_far (p := ⟨gb521, 0, none⟩) (Kd.R_types HO_6.out BK521.out (by decide)) (fun _ hk => hk.2) (.slice Ao167 t517.length co167)) (fun _ h_ => h_.1))) hb); have n2_ := AM (Kd.R_below (by exact (Kd.R_mono (Kd.R_far (p := ⟨gb521, 0, none⟩) (Kd.R_types HO_484000.out BK521.out (by decide)) (fun _ hk => hk.2) (.slice Ao167 t517.length co167)) (fun _ h_ => h_.1))) hb); have n3_ := AM (Kd.R_below (by exact (Kd.R_mono (Kd.R_far (p := ⟨gb521, 0, none⟩) (Kd.R_types HO_489000.out BK521.out (by decide)) (fun _ hk => hk.2) (.slice Ao167 t517.length co167)) (fun _ h_ => h_.1))) hb); have n4_ := AM (Kd.R_below (by exact (Kd.R_mono (Kd.R_far (p := ⟨gb521, 0, none⟩) (Kd.R_types HO_494000.out BK521.out (by decide)) (fun _ hk => hk.2) (.slice Ao167 t517.length co167)) (fun _ h_ => h_.1))) hb); have n5_ := AM (Kd.R_below (by exact (Kd.R_mono (Kd.R_far (p := ⟨gb521, 0, none⟩) (Kd.R_types HO_496000.out BK521.out (by decide)) (fun _ hk => hk.2) (.slice Ao167 t517.length co167)) (fun _ h_ => h_.1))) hb); have n6_ := AM (Kd.R_below (by exact (Kd.R_mono (Kd.R_far (p := ⟨gb521, 0, none⟩) (Kd.R_types HO514.out BK521.out (by decide)) (fun _ hk => hk.2) (.slice Ao167 t517.length co167)) (fun _ h_ => h_.1))) hb); have n7_ := AM (Kd.R_below (by exact (Kd.R_mono (Kd.R_far (p := ⟨gb521, 0, none⟩) (Kd.R_types HO519.out BK521.out (by decide)) (fun _ hk => hk.2) (.slice Ao167 t517.length co167)) (fun _ h_ => h_.1))) hb); have n8_ := AM (blk_below (g := gb483) (o := .cells #[.slice Ao10 t473.length co10] 30 (0, 0)) (be) hb); have n9_ := AM (blk_below (g := gb488) (o := .cells #[.slice Ao15 t484.length co15] 30 (0, 0)) (be) hb); have n10_ := AM (blk_below (g := gb493) (o := .cells #[.slice Ao21 t489.length co21] 30 (0, 0)) (be) hb); have n11_ := AM (blk_below (g := gb495) (o := .cells #[u496000] 30 (0, 0)) (be) hb); have n12_ := AM (blk_below (g := gb516) (o := .cells #[.slice Ao158 t512.length co158] 30 (0, 0)) (be) hb); have n13_ := AM (blk_below (g := gb521) (o := .cells #[.slice Ao167 t517.length co167] 30 (0, 0)) (bp #[.slice none 0 0] 0) hb); have n14_ := AM (below_step (hS) hb); clear HO_4; clear HO_6; clear HO_484000; clear HO_489000; clear HO_494000; clear HO_496000; clear HO514; clear HO519; clear BK483; clear BK488; clear BK493; clear BK495; clear BK516; clear BK521; clear HB; have HO_4 := n0_; have HO_6 := n1_; have HO_484000 := n2_; have HO_489000 := n3_; have HO_494000 := n4_; have HO_496000 := n5_; have HO514 := n6_; have HO519 := n7_; have BK483 := n8_; have BK488 := n9_; have BK493 := n10_; have BK495 := n11_; have BK516 := n12_; have BK521 := n13_; have HB := n14_; clear n0_ n1_ n2_ n3_ n4_ n5_ n6_ n7_ n8_ n9_ n10_ n11_ n12_ n13_ n14_; (try clear hb); (try clear hb2); (try clear hk); (try clear hi); have hnb176 := NB495_488.out; have hnc176 := NB488_495.out; have hnb177 := NB495_493.out; have hnc177 := NB493_495.out; have hcz178_0 := bv BK495 0 (u496000); have hfz178_0 := bz BK495 0; have hnb179 := NB488_493.out; have hnc179 := NB493_488.out; have hcz180_0 := bv BK488 0 (.slice Ao15 t484.length co15); have hfz180_0 := bz BK488 0; obtain ⟨Ao181, co181, eo181⟩ := Kd.R_slice HO_496000.out; subst eo181) | (go_at_call 35; (with_reducible refine (laws_sameDisk.calls k2 _ _ x496000_2 _ _ t484 t523 _ ?side1 ?side2 ?side3 ?side4 A150.out).mono ?_); (case side1 => repeat (first | exact (Kd.R_reads' HO_496000.out).2.2 | (with_reducible first | refine cA ?_ _ | refine cN ?_ _ | refine cD ?_))); (case side2 => exact (Kd.R_reads' HO_496000.out).2.1); (case side3 => repeat (first | exact (Kd.R_reads' HO_489000.out).2.2 | (with_reducible first | refine cA ?_ _ | refine cN ?_ _ | refine cD ?_))); (case side4 => exact (Kd.R_reads' HO_489000.out).2.1); rintro e w182 ⟨rfl, hb⟩; replace HO_4 := AM (Kd.R_below (by exact HO_4.out) hb); replace HO_6 := AM (Kd.R_below (by exact HO_6.out) hb); replace HO_484000 := AM (Kd.R_below (by exact HO_484000.out) hb); replace HO_489000 := AM (Kd.R_below (by exact HO_489000.out) hb); replace HO_494000 := AM (Kd.R_below (by exact HO_494000.out) hb); replace HO_496000 := AM (Kd.R_below (by exact HO_496000.out) hb); replace HO514 := AM (Kd.R_below (by exact HO514.out) hb); replace HO519 := AM (Kd.R_below (by exact HO519.out) hb); replace BK483 := bw BK483 hb; replace BK488 := bw BK488 hb; replace BK493 := bw BK493 hb; replace BK495 := bw BK495 hb; replace BK516 := bw BK516 hb; replace BK521 := bw BK521 hb; replace HB := AM (below_step (hS) hb); (try clear hb); (try clear hb2); (try clear hk); (try clear hi)))
      go_ret
      exact ⟨er, hS⟩
     replace c123 := Bool.eq_false_iff.mpr c123
     subst c123
     have H1 : (some false) = some r := by rw [if_neg (show ¬ (false = true) by decide)] at H; exact H
     clear H
     have H := H1
     clear H1
     exact absurd ((Option.some.inj H).trans hT.out) (by decide)
    rw [if_neg c121] at H
    have c121b0 : (t515 == t520) = false := by simpa using c121
    (try (have c121b1 : decide (t515 = t520) = false := by simpa using c121))
    (try (have c121b2 : (t515 == t520) = false := by simpa using c121))
    (try (have c121b3 : ¬ (t515 = t520) := by simpa using c121))
    clear c121
    exact absurd ((Option.some.inj H).trans hT.out) (by decide)

/-- THE ONE PURE STATEMENT of laws_FnActs: yours. -/
def laws_FnActs.Pure : Prop := ∀ (l0 : List Int), l0.length ≤ maxLen → l0.length * 1 ≤ 140737488351232 → (∀ x ∈ l0, (Lit.int .u8 x).wf = true) → ∃ k, laws_FnActs.f k l0 = some true
theorem laws_FnActs.walk (P : laws_FnActs.Pure) (a0 : Option Addr) (len0 cap0 : Nat) (z0 : List Int) (w : World) (w0 : (a0 = none ∧ len0 = 0 ∧ cap0 = 0 ∧ z0 = []) ∨ ∃ x, a0 = some x ∧ len0 ≤ cap0 ∧ cap0 ≤ maxLen ∧ z0.length = cap0 ∧ (∀ i, i < z0.length → w.cell? (x.add i) = some (.int .u8 (z0.getD i 0))) ∧ ∀ n ∈ z0, (Lit.int .u8 n).wf = true) (y0 : len0 * 1 ≤ 140737488351232) :
  Calls Try.prog 8 #[.slice a0 len0 cap0] w fun e w' => e = .returned (.bool true) ∧ Below w.heap.size w w' := by
 obtain ⟨l0, rfl, hr0, hm0, hw0, hc0⟩ := ReadsInt.ofRowC w0
 obtain ⟨k, h⟩ := P l0 hm0 y0 hw0
 refine (laws_FnActs.calls k _ _ l0 true w (Kd.C_of_reads (d := (0 : Int)) (h1 := fun _ => rfl) hr0) hc0 h).mono ?_
 rintro e w' ⟨rfl, hd⟩
 exact ⟨rfl, hd⟩

end Go.Proofs.Ytnkldnkolcighaa.XFnActs
