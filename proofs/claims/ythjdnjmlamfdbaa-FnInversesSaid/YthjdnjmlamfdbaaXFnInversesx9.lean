/- What the functions of a law compute, and that their calls compute it: written by a program of this session (xprint.py), which turns the kit print at a few places. -/
import Derived.Test.YthjdnjmlamfdbaaXFnInversesx0
import Derived.Test.YthjdnjmlamfdbaaXFnInversesx1
import Derived.Test.YthjdnjmlamfdbaaXFnInversesx2
import Derived.Test.YthjdnjmlamfdbaaXFnInversesx3
import Derived.Test.YthjdnjmlamfdbaaXFnInversesx5
import Derived.Test.YthjdnjmlamfdbaaXFnInversesx8
namespace Go.Proofs.Ythjdnjmlamfdbaa.XFnInverses
open Go.RowKit Go.Proofs.YthjdnjmlamfdbaaW.PrintWords Go.Proofs.YthjdnjmlamfdbaaW.PrintLast Go.Proofs.YthjdnjmlamfdbaaW.PrintMore
attribute [local go_sem] max2_int min2_int max_two min_two max_three min_three max_four min_four   -- for this text's walks alone
set_option linter.unusedVariables false
set_option linter.unusedSimpArgs false

/-! ### laws_FnInverses: function 8 -/
mutual
def laws_FnInverses.j0 : Nat → List (List Int) → List (List Int) → Bool → Bool → Option (Bool)
 | 0, _, _, _, _ => none
 | k + 1, x3, x6, x7, x41 => if x41 = true then (some false) else ((spec_OneM.f k (x3.length : Int)).bind fun t347 => (laws_FnInverses.l0 k x3 x6 x7 t347 (([] : List (List Int))) 0))
def laws_FnInverses.l0 : Nat → List (List Int) → List (List Int) → Bool → List (List Int) → List (List Int) → Int → Option (Bool)
 | 0, _, _, _, _, _, _ => none
 | k + 1, x3, x6, x7, x10, x11, x12 => if x12 < (x3.length : Int) then (if 0 < (x3.length : Int) then (if x11.length < 5864062014805 then (laws_FnInverses.l0 k x3 x6 x7 x10 (x11 ++ [rd_L2 x3 0]) (wrap64 (x12 + 1))) else (none)) else (none)) else ((impl_InvM.f x11).bind fun bt357 => (if (x3.length : Int) > 1 then (laws_FnInverses.j2 k x3 x6 x7 x10 bt357.2) else (laws_FnInverses.j2 k x3 x6 x7 x10 false)))
def laws_FnInverses.j2 : Nat → List (List Int) → List (List Int) → Bool → List (List Int) → Bool → Option (Bool)
 | 0, _, _, _, _, _ => none
 | k + 1, x3, x6, x7, x10, x68 => if x68 = true then (some false) else (if x7 = true then ((spec_MulM.f k x3 x6).bind fun t361 => ((laws_sameMatrix.f k t361 x10).bind fun t364 => (if t364 = true then ((spec_MulM.f k x6 x3).bind fun t365 => ((laws_sameMatrix.f k t365 x10).bind fun t368 => (some t368))) else (some false)))) else (if (x6.length : Int) = 0 then (some true) else (some false)))
end
def laws_FnInverses.f (k : Nat) (l0 : List Int) : Option (Bool) := (laws_big.f l0).bind fun t328 => (if t328 = true then (some true) else ((spec_DrawSquares.f k l0).bind fun bt329 => ((impl_InvM.f bt329.1).bind fun bt338 => ((spec_InvM.f k bt329.1).bind fun bt342 => (if (bt338.2 != bt342.2) = true then (laws_FnInverses.j0 k bt329.1 bt338.1 bt338.2 true) else ((laws_sameMatrix.f k bt338.1 bt342.1).bind fun t346 => (laws_FnInverses.j0 k bt329.1 bt338.1 bt338.2 (!t346))))))))
theorem laws_FnInverses.mono_l : ∀ k, (∀ y0 y1 y2 y3, LeO (laws_FnInverses.j0 k y0 y1 y2 y3) (laws_FnInverses.j0 (k + 1) y0 y1 y2 y3)) ∧ (∀ y0 y1 y2 y3 y4 y5, LeO (laws_FnInverses.l0 k y0 y1 y2 y3 y4 y5) (laws_FnInverses.l0 (k + 1) y0 y1 y2 y3 y4 y5)) ∧ (∀ y0 y1 y2 y3 y4, LeO (laws_FnInverses.j2 k y0 y1 y2 y3 y4) (laws_FnInverses.j2 (k + 1) y0 y1 y2 y3 y4))
 | 0 => ⟨fun _ _ _ _ r h => by simp [laws_FnInverses.j0] at h, fun _ _ _ _ _ _ r h => by simp [laws_FnInverses.l0] at h, fun _ _ _ _ _ r h => by simp [laws_FnInverses.j2] at h⟩
 | k + 1 => by
  obtain ⟨ih0, ih1, ih2⟩ := laws_FnInverses.mono_l k
  refine ⟨?_, ?_, ?_⟩
  ·intro y0 y1 y2 y3
   unfold laws_FnInverses.j0
   repeat' first
   | (with_reducible exact ih0 _ _ _ _)
   | (with_reducible exact ih1 _ _ _ _ _ _)
   | (with_reducible exact ih2 _ _ _ _ _)
   | (with_reducible exact laws_sameMatrix.mono _ _ _)
   | (with_reducible exact spec_DrawSquares.mono _ _)
   | (with_reducible exact spec_InvM.mono _ _)
   | (with_reducible exact spec_MulM.mono _ _ _)
   | (with_reducible exact spec_OneM.mono _ _)
   | (with_reducible exact LeO.refl _)
   | (with_reducible exact LeO.none _)
   | (with_reducible refine LeO.ite ?_ ?_)
   | (with_reducible refine LeO.bind ?_ (fun _ => ?_))
   | exact ih0 _ _ _ _
   | exact ih1 _ _ _ _ _ _
   | exact ih2 _ _ _ _ _
   | exact laws_sameMatrix.mono _ _ _
   | exact spec_DrawSquares.mono _ _
   | exact spec_InvM.mono _ _
   | exact spec_MulM.mono _ _ _
   | exact spec_OneM.mono _ _
   | exact LeO.none _
   | refine LeO.ite ?_ ?_
   | refine LeO.bind ?_ (fun _ => ?_)
  ·intro y0 y1 y2 y3 y4 y5
   unfold laws_FnInverses.l0
   repeat' first
   | (with_reducible exact ih0 _ _ _ _)
   | (with_reducible exact ih1 _ _ _ _ _ _)
   | (with_reducible exact ih2 _ _ _ _ _)
   | (with_reducible exact laws_sameMatrix.mono _ _ _)
   | (with_reducible exact spec_DrawSquares.mono _ _)
   | (with_reducible exact spec_InvM.mono _ _)
   | (with_reducible exact spec_MulM.mono _ _ _)
   | (with_reducible exact spec_OneM.mono _ _)
   | (with_reducible exact LeO.refl _)
   | (with_reducible exact LeO.none _)
   | (with_reducible refine LeO.ite ?_ ?_)
   | (with_reducible refine LeO.bind ?_ (fun _ => ?_))
   | exact ih0 _ _ _ _
   | exact ih1 _ _ _ _ _ _
   | exact ih2 _ _ _ _ _
   | exact laws_sameMatrix.mono _ _ _
   | exact spec_DrawSquares.mono _ _
   | exact spec_InvM.mono _ _
   | exact spec_MulM.mono _ _ _
   | exact spec_OneM.mono _ _
   | exact LeO.none _
   | refine LeO.ite ?_ ?_
   | refine LeO.bind ?_ (fun _ => ?_)
  ·intro y0 y1 y2 y3 y4
   unfold laws_FnInverses.j2
   repeat' first
   | (with_reducible exact ih0 _ _ _ _)
   | (with_reducible exact ih1 _ _ _ _ _ _)
   | (with_reducible exact ih2 _ _ _ _ _)
   | (with_reducible exact laws_sameMatrix.mono _ _ _)
   | (with_reducible exact spec_DrawSquares.mono _ _)
   | (with_reducible exact spec_InvM.mono _ _)
   | (with_reducible exact spec_MulM.mono _ _ _)
   | (with_reducible exact spec_OneM.mono _ _)
   | (with_reducible exact LeO.refl _)
   | (with_reducible exact LeO.none _)
   | (with_reducible refine LeO.ite ?_ ?_)
   | (with_reducible refine LeO.bind ?_ (fun _ => ?_))
   | exact ih0 _ _ _ _
   | exact ih1 _ _ _ _ _ _
   | exact ih2 _ _ _ _ _
   | exact laws_sameMatrix.mono _ _ _
   | exact spec_DrawSquares.mono _ _
   | exact spec_InvM.mono _ _
   | exact spec_MulM.mono _ _ _
   | exact spec_OneM.mono _ _
   | exact LeO.none _
   | refine LeO.ite ?_ ?_
   | refine LeO.bind ?_ (fun _ => ?_)
theorem laws_FnInverses.mono : ∀ a0 k, LeO (laws_FnInverses.f k a0) (laws_FnInverses.f (k + 1) a0) := by
 intro a0 k
 obtain ⟨ih0, ih1, ih2⟩ := laws_FnInverses.mono_l k
 unfold laws_FnInverses.f
 repeat' first
   | (with_reducible exact ih0 _ _ _ _)
   | (with_reducible exact ih1 _ _ _ _ _ _)
   | (with_reducible exact ih2 _ _ _ _ _)
   | (with_reducible exact laws_sameMatrix.mono _ _ _)
   | (with_reducible exact spec_DrawSquares.mono _ _)
   | (with_reducible exact spec_InvM.mono _ _)
   | (with_reducible exact spec_MulM.mono _ _ _)
   | (with_reducible exact spec_OneM.mono _ _)
   | (with_reducible exact LeO.refl _)
   | (with_reducible exact LeO.none _)
   | (with_reducible refine LeO.ite ?_ ?_)
   | (with_reducible refine LeO.bind ?_ (fun _ => ?_))
   | exact ih0 _ _ _ _
   | exact ih1 _ _ _ _ _ _
   | exact ih2 _ _ _ _ _
   | exact laws_sameMatrix.mono _ _ _
   | exact spec_DrawSquares.mono _ _
   | exact spec_InvM.mono _ _
   | exact spec_MulM.mono _ _ _
   | exact spec_OneM.mono _ _
   | exact LeO.none _
   | refine LeO.ite ?_ ?_
   | refine LeO.bind ?_ (fun _ => ?_)
set_option maxHeartbeats 8000000 in
set_option maxRecDepth 100000 in
theorem laws_FnInverses.calls (k : Nat) (A0 : Option Addr) (c0 : Nat) (l0 : List Int) (r : Bool) (w : World) (hr0 : Kd.C (Kd.int .u8) w A0 l0.length l0) (hc0 : l0.length ≤ c0) (h : laws_FnInverses.f k l0 = some r) :
  Calls Try.prog 8 #[.slice A0 l0.length c0] w fun e w' => e = .returned (.bool r) ∧ Below w.heap.size w w' := by
 have HR0 := Aside0.mk hr0
 have HC0 := Aside0.mk hc0
 clear hr0 hc0
 have HB := Aside0.mk (Below.refl w.heap.size w)
 have H : ((laws_big.f l0).bind fun t328 => (if t328 = true then (some true) else ((spec_DrawSquares.f k l0).bind fun bt329 => ((impl_InvM.f bt329.1).bind fun bt338 => ((spec_InvM.f k bt329.1).bind fun bt342 => (if (bt338.2 != bt342.2) = true then (laws_FnInverses.j0 k bt329.1 bt338.1 bt338.2 true) else ((laws_sameMatrix.f k bt338.1 bt342.1).bind fun t346 => (laws_FnInverses.j0 k bt329.1 bt338.1 bt338.2 (!t346))))))))) = some r := h
 clear h
 replace H := Option.bind_eq_some_iff.mp H
 obtain ⟨t328, A20, H⟩ := H
 replace H : (if t328 = true then (some true) else ((spec_DrawSquares.f k l0).bind fun bt329 => ((impl_InvM.f bt329.1).bind fun bt338 => ((spec_InvM.f k bt329.1).bind fun bt342 => (if (bt338.2 != bt342.2) = true then (laws_FnInverses.j0 k bt329.1 bt338.1 bt338.2 true) else ((laws_sameMatrix.f k bt338.1 bt342.1).bind fun t346 => (laws_FnInverses.j0 k bt329.1 bt338.1 bt338.2 (!t346)))))))) = some r := H
 have A2 := Aside0.mk A20
 clear A20
 by_cases c3 : t328 = true
 ·subst c3
  have H1 : (some true) = some r := by rw [if_pos rfl] at H; exact H
  clear H
  have H := H1
  clear H1
  obtain rfl := Option.some.inj H
  go_enter Try.func8, Try.ntmps8
  go_wp2_with (first | ((with_reducible refine gate_callee (f := 16) rfl ?_); refine goesL_ (some 16) rfl rfl Try.func16 (by kernel_rfl) rfl #[.slice A0 l0.length c0] rfl (by (try simp only [List.map_toArray, List.map_cons, List.map_nil]); first | done | rfl) ?_; (with_reducible refine (laws_big.calls _ _ l0 true _ ?side1 ?side2 A2.out).mono ?_); (case side1 => repeat (first | exact HR0.out | (with_reducible refine Kd.C_alloc ?_ _) | (with_reducible refine Kd.C_drewN ?_ _) | (with_reducible refine Kd.C_drew ?_))); (case side2 => exact HC0.out); rintro e w' ⟨rfl, ⟨nd, rfl⟩⟩; refine ⟨_, rfl, ?_⟩))
  go_ret
  exact ⟨by first | rfl | (simp [errW_none, errW_some] <;> rfl) | (simp [*, errW_none, errW_some] <;> rfl), by repeat (first | exact HB.out | apply below_alloc | apply pw_below_drewN | apply below_drew1)⟩
 ·replace c3 := Bool.eq_false_iff.mpr c3
  subst c3
  have H1 : ((spec_DrawSquares.f k l0).bind fun bt329 => ((impl_InvM.f bt329.1).bind fun bt338 => ((spec_InvM.f k bt329.1).bind fun bt342 => (if (bt338.2 != bt342.2) = true then (laws_FnInverses.j0 k bt329.1 bt338.1 bt338.2 true) else ((laws_sameMatrix.f k bt338.1 bt342.1).bind fun t346 => (laws_FnInverses.j0 k bt329.1 bt338.1 bt338.2 (!t346))))))) = some r := by rw [if_neg (show ¬ (false = true) by decide)] at H; exact H
  clear H
  have H := H1
  clear H1
  replace H := Option.bind_eq_some_iff.mp H
  obtain ⟨⟨t329, t330, t331⟩, A40, H⟩ := H
  replace H : ((impl_InvM.f t329).bind fun bt338 => ((spec_InvM.f k t329).bind fun bt342 => (if (bt338.2 != bt342.2) = true then (laws_FnInverses.j0 k t329 bt338.1 bt338.2 true) else ((laws_sameMatrix.f k bt338.1 bt342.1).bind fun t346 => (laws_FnInverses.j0 k t329 bt338.1 bt338.2 (!t346)))))) = some r := H
  have A4 := Aside0.mk A40
  clear A40
  replace H := Option.bind_eq_some_iff.mp H
  obtain ⟨⟨t338, t339⟩, A50, H⟩ := H
  replace H : ((spec_InvM.f k t329).bind fun bt342 => (if (t339 != bt342.2) = true then (laws_FnInverses.j0 k t329 t338 t339 true) else ((laws_sameMatrix.f k t338 bt342.1).bind fun t346 => (laws_FnInverses.j0 k t329 t338 t339 (!t346))))) = some r := H
  have A5 := Aside0.mk A50
  clear A50
  replace H := Option.bind_eq_some_iff.mp H
  obtain ⟨⟨t342, t345⟩, A60, H⟩ := H
  replace H : (if (t339 != t345) = true then (laws_FnInverses.j0 k t329 t338 t339 true) else ((laws_sameMatrix.f k t338 t342).bind fun t346 => (laws_FnInverses.j0 k t329 t338 t339 (!t346)))) = some r := H
  have A6 := Aside0.mk A60
  clear A60
  have HC7 := Aside0.mk H
  clear H
  go_enter Try.func8, Try.ntmps8
  go_upto_region 6 with (first | ((with_reducible refine gate_callee (f := 16) rfl ?_); refine goesL_ (some 16) rfl rfl Try.func16 (by kernel_rfl) rfl #[.slice A0 l0.length c0] rfl (by (try simp only [List.map_toArray, List.map_cons, List.map_nil]); first | done | rfl) ?_; (with_reducible refine (laws_big.calls _ _ l0 false _ ?side1 ?side2 A2.out).mono ?_); (case side1 => repeat (first | exact HR0.out | (with_reducible refine Kd.C_alloc ?_ _) | (with_reducible refine Kd.C_drewN ?_ _) | (with_reducible refine Kd.C_drew ?_))); (case side2 => exact HC0.out); rintro e w' ⟨rfl, ⟨nd, rfl⟩⟩; refine ⟨_, rfl, ?_⟩) | ((with_reducible refine gate_callee (f := 17) rfl ?_); refine goesL_ (some 19) rfl rfl Try.func17 (by kernel_rfl) rfl #[.slice A0 l0.length c0] rfl (by (try simp only [List.map_toArray, List.map_cons, List.map_nil]); first | done | rfl) ?_; (with_reducible refine (spec_DrawSquares.calls k _ _ l0 t329 t330 t331 _ ?side1 ?side2 A4.out).mono ?_); (case side1 => repeat (first | exact HR0.out | (with_reducible refine Kd.C_alloc ?_ _) | (with_reducible refine Kd.C_drewN ?_ _) | (with_reducible refine Kd.C_drew ?_))); (case side2 => exact HC0.out); rintro e w8 ⟨v332, v334, v336, rfl, ho0, ho1, ho2, hb⟩; refine ⟨_, rfl, ?_⟩; have n0_ := Aside0.mk (Kd.N_lower (Kd.N_mono (ok' := fun k_ => some k_ ≠ (v334 : Value).ownBlock ∧ some k_ ≠ (v336 : Value).ownBlock) (Kd.S_N (Kd.S_bound ho0)) (fun k_ hk_ => ⟨hk_.1.1, hk_.1.2⟩)) (below_size (by repeat (first | exact HB.out | apply below_alloc | apply pw_below_drewN | apply below_drew1)))); have n1_ := Aside0.mk (Kd.N_lower (Kd.N_mono (ok' := fun k_ => some k_ ≠ (v332 : Value).ownBlock ∧ some k_ ≠ (v336 : Value).ownBlock) (Kd.S_N (Kd.S_bound ho1)) (fun k_ hk_ => ⟨hk_.1.1, hk_.1.2⟩)) (below_size (by repeat (first | exact HB.out | apply below_alloc | apply pw_below_drewN | apply below_drew1)))); have n2_ := Aside0.mk (Kd.N_lower (Kd.N_mono (ok' := fun k_ => some k_ ≠ (v332 : Value).ownBlock ∧ some k_ ≠ (v334 : Value).ownBlock) (Kd.S_N (Kd.S_bound ho2)) (fun k_ hk_ => ⟨hk_.1.1, hk_.1.2⟩)) (below_size (by repeat (first | exact HB.out | apply below_alloc | apply pw_below_drewN | apply below_drew1)))); have n3_ := Aside0.mk (below_step (by repeat (first | exact HB.out | apply below_alloc | apply pw_below_drewN | apply below_drew1)) hb); clear HB; have HO333 := n0_; have HO335 := n1_; have HO337 := n2_; have HB := n3_; clear n0_ n1_ n2_ n3_; (try clear hb); (try clear ho0); (try clear ho1); (try clear ho2); obtain ⟨Ao9, co9, eo9⟩ := Kd.N_slice HO333.out; subst eo9) | ((with_reducible refine gate_callee (f := 35) rfl ?_); refine goesL_ (some 25) rfl rfl Try.func35 (by kernel_rfl) rfl #[.slice Ao9 t329.length co9] rfl (by (try simp only [List.map_toArray, List.map_cons, List.map_nil]); first | done | rfl) ?_; (with_reducible refine (impl_InvM.calls _ _ t329 t338 t339 _ ?side1 ?side2 A5.out).mono ?_); (case side1 => repeat (first | exact (Kd.N_reads' HO333.out).2.2 | (with_reducible refine Kd.C_alloc ?_ _) | (with_reducible refine Kd.C_drewN ?_ _) | (with_reducible refine Kd.C_drew ?_))); (case side2 => exact (Kd.N_reads' HO333.out).2.1); rintro e w10 ⟨v340, rfl, ho0, hb⟩; refine ⟨_, rfl, ?_⟩; have n0_ := Aside0.mk (Kd.N_elder' (by exact HO333.out) (Kd.S_base ho0) hb); have n1_ := Aside0.mk (Kd.N_elder' (by exact HO335.out) (Kd.S_base ho0) hb); have n2_ := Aside0.mk (Kd.N_elder' (by exact HO337.out) (Kd.S_base ho0) hb); have n3_ := Aside0.mk (Kd.N_lower (Kd.N_mono (ok' := fun k_ => some k_ ≠ (.slice Ao9 t329.length co9 : Value).ownBlock ∧ some k_ ≠ (v334 : Value).ownBlock ∧ some k_ ≠ (v336 : Value).ownBlock) (Kd.S_N (Kd.S_bound ho0)) (fun k_ hk_ => ⟨(Kd.fresh' (Kd.N_lt (by exact HO333.out)) k_ hk_.2.1), (Kd.fresh' (Kd.N_lt (by exact HO335.out)) k_ hk_.2.1), (Kd.fresh' (Kd.N_lt (by exact HO337.out)) k_ hk_.2.1)⟩)) (below_size (by repeat (first | exact HB.out | apply below_alloc | apply pw_below_drewN | apply below_drew1)))); have n4_ := Aside0.mk (below_step (by repeat (first | exact HB.out | apply below_alloc | apply pw_below_drewN | apply below_drew1)) hb); clear HO333; clear HO335; clear HO337; clear HB; have HO333 := n0_; have HO335 := n1_; have HO337 := n2_; have HO341 := n3_; have HB := n4_; clear n0_ n1_ n2_ n3_ n4_; (try clear hb); (try clear ho0)) | ((with_reducible refine gate_callee (f := 32) rfl ?_); refine goesL_ (some 30) rfl rfl Try.func32 (by kernel_rfl) rfl #[.slice Ao9 t329.length co9] rfl (by (try simp only [List.map_toArray, List.map_cons, List.map_nil]); first | done | rfl) ?_; (with_reducible refine (spec_InvM.calls k _ _ t329 t342 t345 _ ?side1 ?side2 A6.out).mono ?_); (case side1 => repeat (first | exact (Kd.N_reads' HO333.out).2.2 | (with_reducible refine Kd.C_alloc ?_ _) | (with_reducible refine Kd.C_drewN ?_ _) | (with_reducible refine Kd.C_drew ?_))); (case side2 => exact (Kd.N_reads' HO333.out).2.1); rintro e w11 ⟨v343, rfl, ho0, hb⟩; refine ⟨_, rfl, ?_⟩; have n0_ := Aside0.mk (Kd.N_elder' (by exact HO333.out) (Kd.N_base ho0) hb); have n1_ := Aside0.mk (Kd.N_elder' (by exact HO335.out) (Kd.N_base ho0) hb); have n2_ := Aside0.mk (Kd.N_elder' (by exact HO337.out) (Kd.N_base ho0) hb); have n3_ := Aside0.mk (Kd.N_elder' (by exact HO341.out) (Kd.N_base ho0) hb); have n4_ := Aside0.mk (Kd.N_lower (Kd.N_mono (ok' := fun k_ => some k_ ≠ (.slice Ao9 t329.length co9 : Value).ownBlock ∧ some k_ ≠ (v334 : Value).ownBlock ∧ some k_ ≠ (v336 : Value).ownBlock ∧ some k_ ≠ (v340 : Value).ownBlock) ho0 (fun k_ hk_ => ⟨(Kd.fresh' (Kd.N_lt (by exact HO333.out)) k_ hk_), (Kd.fresh' (Kd.N_lt (by exact HO335.out)) k_ hk_), (Kd.fresh' (Kd.N_lt (by exact HO337.out)) k_ hk_), (Kd.fresh' (Kd.N_lt (by exact HO341.out)) k_ hk_)⟩)) (below_size (by repeat (first | exact HB.out | apply below_alloc | apply pw_below_drewN | apply below_drew1)))); have n5_ := Aside0.mk (below_step (by repeat (first | exact HB.out | apply below_alloc | apply pw_below_drewN | apply below_drew1)) hb); clear HO333; clear HO335; clear HO337; clear HO341; clear HB; have HO333 := n0_; have HO335 := n1_; have HO337 := n2_; have HO341 := n3_; have HO344 := n4_; have HB := n5_; clear n0_ n1_ n2_ n3_ n4_ n5_; (try clear hb); (try clear hk); (try clear ho0)))
  (try simp only [Act.put, List.setIfInBounds_toArray, List.set_cons_zero, List.set_cons_succ])
  go_cut [41] (fun v41 wc => ∃ (kq : Nat) (x41_6 : Bool), v41 = .bool x41_6 ∧ Aside0 (laws_FnInverses.j0 kq t329 t338 t339 x41_6 = some r) ∧ Aside0 (kq ≤ k) ∧ Aside0 (Kd.N (Kd.slice 3 (Kd.int .i64)) 43 wc w.heap.size (fun k_ => some k_ ≠ (v340 : Value).ownBlock) (.slice Ao9 t329.length co9) t329) ∧ Aside0 (Kd.N (Kd.slice 3 (Kd.int .i64)) 43 wc w.heap.size (fun k_ => some k_ ≠ ((.slice Ao9 t329.length co9) : Value).ownBlock) v340 t338) ∧ Aside0 (Below w.heap.size w wc))
  case first =>
   have H := HC7.out
   clear HC7
   by_cases c12 : (t339 != t345) = true
   ·rw [if_pos c12] at H
    have c12b0 : (t339 != t345) = true := c12
    (try (have c12b1 : decide (t339 = t345) = false := by simpa using c12))
    (try (have c12b2 : (t339 == t345) = false := by simpa using c12))
    (try (have c12b3 : ¬ (t339 = t345) := by simpa using c12))
    clear c12
    (first | rw [c12b0] | (simp only [i64_w, i32_w]; rw [c12b0]) | rw [c12b1] | skip)
    have H' := Aside0.mk H
    clear H
    go_wp2
    go_meet
    case rel => exact ⟨_, (true), (by first | rfl | (simp; done) | (simp [*]; done)), H', ⟨by first | omega | exact Nat.le_refl _⟩, ⟨by exact Kd.N_mono HO333.out (fun _ hk => hk.1.2)⟩, ⟨by exact Kd.N_mono HO341.out (fun _ hk => hk.1.1)⟩, ⟨by repeat (first | exact HB.out | apply below_alloc | apply pw_below_drewN | apply below_drew1)⟩⟩
   ·rw [if_neg c12] at H
    have c12b0 : (t339 != t345) = false := by simpa using c12
    (try (have c12b1 : decide (t339 = t345) = true := by simpa using c12))
    (try (have c12b2 : (t339 == t345) = true := by simpa using c12))
    clear c12
    (first | rw [c12b0] | (simp only [i64_w, i32_w]; rw [c12b0]) | rw [c12b1] | skip)
    replace H := Option.bind_eq_some_iff.mp H
    obtain ⟨t346, A130, H⟩ := H
    replace H : (laws_FnInverses.j0 k t329 t338 t339 (!t346)) = some r := H
    have A13 := Aside0.mk A130
    clear A130
    have H' := Aside0.mk H
    clear H
    obtain ⟨Ao14, co14, eo14⟩ := Kd.N_slice HO341.out
    subst eo14
    obtain ⟨Ao15, co15, eo15⟩ := Kd.N_slice HO344.out
    subst eo15
    go_wp2_with (first | (go_at_call 20; (with_reducible refine (laws_sameMatrix.calls k _ _ t338 _ _ t342 t346 _ ?side1 ?side2 ?side3 ?side4 A13.out).mono ?_); (case side1 => repeat (first | exact (Kd.N_reads' HO341.out).2.2 | (with_reducible refine Kd.C_alloc ?_ _) | (with_reducible refine Kd.C_drewN ?_ _) | (with_reducible refine Kd.C_drew ?_))); (case side2 => exact (Kd.N_reads' HO341.out).2.1); (case side3 => repeat (first | exact (Kd.N_reads' HO344.out).2.2 | (with_reducible refine Kd.C_alloc ?_ _) | (with_reducible refine Kd.C_drewN ?_ _) | (with_reducible refine Kd.C_drew ?_))); (case side4 => exact (Kd.N_reads' HO344.out).2.1); rintro e w' ⟨rfl, ⟨nd, rfl⟩⟩))
    go_meet
    case rel => exact ⟨_, (!t346), (by first | rfl | (simp; done) | (simp [*]; done)), H', ⟨by first | omega | exact Nat.le_refl _⟩, ⟨by exact Kd.N_mono HO333.out (fun _ hk => hk.1.2)⟩, ⟨by exact Kd.N_mono HO341.out (fun _ hk => hk.1.1)⟩, ⟨by repeat (first | exact HB.out | apply below_alloc | apply pw_below_drewN | apply below_drew1)⟩⟩
  case rest =>
   clear HC7
   try clear c1; try clear p2; try clear c3; try clear c8; try clear c12; try clear c12b0; try clear c12b1; try clear c12b2
   obtain ⟨kq, x41_6, rfl, HA, HJ6, HO_3, HO_6, HB⟩ := hcut
   cases kq with
   | zero => exact absurd HA.out (by simp [laws_FnInverses.j0])
   | succ kj6 =>
    have H := HA.out
    clear HA
    simp only [laws_FnInverses.j0] at H
    by_cases c16 : x41_6 = true
    ·subst c16
     have H1 : (some false) = some r := by rw [if_pos rfl] at H; exact H
     clear H
     have H := H1
     clear H1
     obtain rfl := Option.some.inj H
     go_wp2
     go_ret
     exact ⟨by first | rfl | (simp [errW_none, errW_some] <;> rfl) | (simp [*, errW_none, errW_some] <;> rfl), by repeat (first | exact HB.out | apply below_alloc | apply pw_below_drewN | apply below_drew1)⟩
    ·replace c16 := Bool.eq_false_iff.mpr c16
     subst c16
     have H1 : ((spec_OneM.f kj6 (t329.length : Int)).bind fun t347 => (laws_FnInverses.l0 kj6 t329 t338 t339 t347 (([] : List (List Int))) 0)) = some r := by rw [if_neg (show ¬ (false = true) by decide)] at H; exact H
     clear H
     have H := H1
     clear H1
     replace H := Option.bind_eq_some_iff.mp H
     obtain ⟨t347, A170, H⟩ := H
     replace H : (laws_FnInverses.l0 kj6 t329 t338 t339 t347 (([] : List (List Int))) 0) = some r := H
     have A17 := Aside0.mk A170
     clear A170
     obtain ⟨y350, hy350⟩ : ∃ y_ : List (List Int), y_ = (([] : List (List Int))) := ⟨_, rfl⟩
     replace H : (laws_FnInverses.l0 kj6 t329 t338 t339 t347 y350 0) = some r := by first | (rw [hy350]; with_reducible exact H) | (have H2_ := (Option.bind_some _ _).symm.trans H; rw [hy350]; with_reducible exact H2_) | (have H2_ := (Option.bind_some _ _).symm.trans H; with_reducible exact H2_) | with_reducible exact H | (rw [hy350]; exact H) | exact H
     have Ny350 := Aside0.mk hy350
     clear hy350
     have H' := Aside0.mk H
     clear H
     go_wp2_with (first | ((with_reducible refine gate_callee (f := 34) rfl ?_); refine goesL_ (some 44) rfl rfl Try.func34 (by kernel_rfl) rfl #[.int .i64 (t329.length : Int)] rfl (by (try simp only [List.map_toArray, List.map_cons, List.map_nil]); first | done | rfl) ?_; (with_reducible refine (spec_OneM.calls kj6 (t329.length : Int) t347 _ A17.out).mono ?_); rintro e w18 ⟨v348, rfl, ho0, hb⟩; refine ⟨_, rfl, ?_⟩; have n0_ := Aside0.mk (Kd.N_elder' (by exact HO_3.out) (Kd.S_base ho0) hb); have n1_ := Aside0.mk (Kd.N_elder' (by exact HO_6.out) (Kd.S_base ho0) hb); have n2_ := Aside0.mk (Kd.N_lower (Kd.N_mono (ok' := fun k_ => some k_ ≠ (.slice Ao9 t329.length co9 : Value).ownBlock ∧ some k_ ≠ (v340 : Value).ownBlock) (Kd.S_N (Kd.S_bound ho0)) (fun k_ hk_ => ⟨(Kd.fresh' (Kd.N_lt (by exact HO_3.out)) k_ hk_.2.1), (Kd.fresh' (Kd.N_lt (by exact HO_6.out)) k_ hk_.2.1)⟩)) (below_size (by repeat (first | exact HB.out | apply below_alloc | apply pw_below_drewN | apply below_drew1)))); have n3_ := Aside0.mk (below_step (by repeat (first | exact HB.out | apply below_alloc | apply pw_below_drewN | apply below_drew1)) hb); clear HO_3; clear HO_6; clear HB; have HO_3 := n0_; have HO_6 := n1_; have HO349 := n2_; have HB := n3_; clear n0_ n1_ n2_ n3_; (try clear hb); (try clear ho0)) | ((with_reducible refine gate_dst (N := 45) rfl ?_); (try (refine gate_guard (by rfl) ?_; dsimp only)); refine Kd.N_lit (Kd.slice 3 (Kd.int .i64)) _ 43 ?hg (N' := 45) ?hd (xs := ([] : List (List Int))) (inner := []) (ok := (fun k_ => some k_ ≠ (.slice Ao9 t329.length co9 : Value).ownBlock ∧ some k_ ≠ (v340 : Value).ownBlock ∧ some k_ ≠ (v348 : Value).ownBlock)) (okp := (fun k_ => some k_ ≠ (.slice Ao9 t329.length co9 : Value).ownBlock ∧ some k_ ≠ (v340 : Value).ownBlock ∧ some k_ ≠ (v348 : Value).ownBlock)) ?hr ?hp (fun _ hk => hk) ((show ∀ k_, w18.heap.size ≤ k_ → (fun k_ => some k_ ≠ (.slice Ao9 t329.length co9 : Value).ownBlock ∧ some k_ ≠ (v340 : Value).ownBlock ∧ some k_ ≠ (v348 : Value).ownBlock) k_ from fun k_ hk => ⟨Kd.fresh' (Kd.N_lt (by exact HO_3.out)) k_ hk, Kd.fresh' (Kd.N_lt (by exact HO_6.out)) k_ hk, Kd.fresh' (Kd.N_lt (by exact HO349.out)) k_ hk⟩) _ (Nat.le_refl _)) (Below.refl _ _) (Nat.le_refl _) (by simp) ?_; (case hd => rfl); (case hg => rfl); (case hr => first | (go_simp; done) | (go_simp; rfl)); (case hp => exact (Reps.none _ _)); intro v351 w19 ho20 hb hg_ hnew_; clear hg_ hnew_; (first | rw [← Ny350.out] at ho20 | (simp only [Int.reduceToNat] at ho20; rw [← Ny350.out] at ho20)); have n0_ := Aside0.mk (Kd.N_elder' (by exact HO_3.out) (Kd.N_base ho20) hb); have n1_ := Aside0.mk (Kd.N_elder' (by exact HO_6.out) (Kd.N_base ho20) hb); have n2_ := Aside0.mk (Kd.N_elder' (by exact HO349.out) (Kd.N_base ho20) hb); have n3_ := Aside0.mk (Kd.N_lower ho20 (below_size (by repeat (first | exact HB.out | apply below_alloc | apply pw_below_drewN | apply below_drew1)))); have n4_ := Aside0.mk (below_step (by repeat (first | exact HB.out | apply below_alloc | apply pw_below_drewN | apply below_drew1)) hb); clear HO_3; clear HO_6; clear HO349; clear HB; have HO_3 := n0_; have HO_6 := n1_; have HO349 := n2_; have HO352 := n3_; have HB := n4_; clear n0_ n1_ n2_ n3_ n4_; clear hb ho20))
     go_loopg [11, 12] kj6 (fun kq v11 v12 w' => ∃ (x11_2 : List (List Int)) (x12_2 : Int), v12 = .int .i64 x12_2 ∧ Aside0 (laws_FnInverses.l0 kq t329 t338 t339 t347 x11_2 x12_2 = some r) ∧ Aside0 (kq ≤ kj6) ∧ Aside0 (Kd.N (Kd.slice 3 (Kd.int .i64)) 43 w' w.heap.size (fun k_ => some k_ ≠ (v340 : Value).ownBlock ∧ some k_ ≠ (v348 : Value).ownBlock ∧ some k_ ≠ (v11 : Value).ownBlock) (.slice Ao9 t329.length co9) t329) ∧ Aside0 (Kd.N (Kd.slice 3 (Kd.int .i64)) 43 w' w.heap.size (fun k_ => some k_ ≠ ((.slice Ao9 t329.length co9) : Value).ownBlock ∧ some k_ ≠ (v348 : Value).ownBlock ∧ some k_ ≠ (v11 : Value).ownBlock) v340 t338) ∧ Aside0 (Kd.N (Kd.slice 3 (Kd.int .i64)) 43 w' w.heap.size (fun k_ => some k_ ≠ ((.slice Ao9 t329.length co9) : Value).ownBlock ∧ some k_ ≠ (v340 : Value).ownBlock ∧ some k_ ≠ (v11 : Value).ownBlock) v348 t347) ∧ Aside0 (Kd.N (Kd.slice 3 (Kd.int .i64)) 43 w' w.heap.size (fun k_ => some k_ ≠ ((.slice Ao9 t329.length co9) : Value).ownBlock ∧ some k_ ≠ (v340 : Value).ownBlock ∧ some k_ ≠ (v348 : Value).ownBlock) v11 x11_2) ∧ Aside0 (Below w.heap.size w w'))
     case atStart => exact ⟨(y350), (0), (by first | rfl | (simp; done) | (simp [*]; done)), H', ⟨Nat.le_refl _⟩, ⟨by exact Kd.N_mono HO_3.out (fun _ hk => ⟨hk.1.1, ⟨hk.1.2, hk.2⟩⟩)⟩, ⟨by exact Kd.N_mono HO_6.out (fun _ hk => ⟨hk.1.1, ⟨hk.1.2, hk.2⟩⟩)⟩, ⟨by exact Kd.N_mono HO349.out (fun _ hk => ⟨hk.1.1, ⟨hk.1.2, hk.2⟩⟩)⟩, ⟨by exact HO352.out⟩, ⟨by repeat (first | exact HB.out | apply below_alloc | apply pw_below_drewN | apply below_drew1)⟩⟩
     case round =>
      clear H'
      try clear c1; try clear p2; try clear c3; try clear c8; try clear c12; try clear c12b0; try clear c12b1; try clear c12b2; try clear c16; try clear c17; try clear p2
      obtain ⟨x11_2, x12_2, rfl, HA, HK2, HO_3, HO_6, HO_10, HO_11, HB⟩ := hrel
      cases gk with
      | zero => exact absurd HA.out (by simp [laws_FnInverses.l0])
      | succ k2 =>
       have H := HA.out
       clear HA
       simp only [laws_FnInverses.l0] at H
       by_cases c21 : x12_2 < (t329.length : Int)
       ·rw [if_pos c21] at H
        have c21b0 : decide (x12_2 < (t329.length : Int)) = true := decide_eq_true c21
        clear c21
        by_cases c22 : 0 < (t329.length : Int)
        ·rw [if_pos c22] at H
         have c22b0 : decide (0 < (t329.length : Int)) = true := decide_eq_true c22
         have c22b1 : decide (0 < t329.length) = true := decide_eq_true (by omega)
         clear c22
         by_cases c23 : x11_2.length < 5864062014805
         ·rw [if_pos c23] at H
          have LMc23 := Aside0.mk c23
          clear c23
          obtain ⟨y354, hy354⟩ : ∃ y_ : List (List Int), y_ = (x11_2 ++ [rd_L2 t329 0]) := ⟨_, rfl⟩
          replace H : (laws_FnInverses.l0 k2 t329 t338 t339 t347 y354 (wrap64 (x12_2 + 1))) = some r := by first | (rw [hy354]; with_reducible exact H) | (have H2_ := (Option.bind_some _ _).symm.trans H; rw [hy354]; with_reducible exact H2_) | (have H2_ := (Option.bind_some _ _).symm.trans H; with_reducible exact H2_) | with_reducible exact H | (rw [hy354]; exact H) | exact H
          have Ny354 := Aside0.mk hy354
          clear hy354
          have H' := Aside0.mk H
          clear H
          have p353 : 0 ≤ (0 : Int) := (by omega)
          have q353 : 0 < (t329.length : Int) := of_decide_eq_true (by assumption)
          obtain ⟨ad353, A353_0, c353_0, e353, hx353_0, hl353_0, hi353_0⟩ := at_L2 (Kd.N_reads' HO_3.out).2.2 0 p353 q353
          cases e353
          obtain ⟨ce353, hce353, hMe353, hcc353⟩ := Kd.N_get HO_3.out [] 0 p353 (by first | exact q353 | exact of_decide_eq_true (by assumption) | (have e_ := (Kd.N_reads' HO_3.out).1; omega))
          obtain ⟨ua353_0, uc353_0, rfl, ul353_0, ge353_0⟩ := Kd.FK_slice_open hMe353
          have hv353_0 := hcc353 0 _ rfl
          rw [Nat.add_zero, show ((Kd.slice 3 (Kd.int .i64))).sz = 1 from rfl, Nat.mul_one] at hv353_0
          replace hv353_0 := Option.some.inj (hv353_0.symm.trans hx353_0)
          injection hv353_0 with hva_ hvn_ hvc_
          rw [hva_] at ge353_0
          rw [hvc_] at ul353_0
          have HL353_0 := Aside0.mk (show Kd.V (Kd.int .i64) 3 _ w.heap.size _ _ (rd_L2 t329 0) from Kd.V_mk ul353_0 ge353_0)
          clear hva_ hvn_ hvc_ ge353_0 ul353_0
          clear hcc353 hce353
          have qi353 : (0 < t329.length) = True := eq_true (by omega)
          (try rw [show ((0 : Int)).toNat = 0 from rfl] at hx353_0)
          (try rw [Addr.add_zero'] at hx353_0)
          have HR353_0 := Aside0.mk hi353_0
          have HC353_0 := Aside0.mk hl353_0
          clear hi353_0 hl353_0
          replace p353 := eq_true p353
          replace q353 := eq_true q353
          go_wp2_with (first | ((with_reducible refine gate_builtin (b := .append) (xs := #[.tmp 52, .tmp 56]) rfl ?_); (try (refine gate_guard (by rfl) ?_; dsimp only)); at_builtin; refine Kd.N_append (Kd.slice 3 (Kd.int .i64)) (w0 := w) w.heap.size rfl (.tmp 52) (.tmp 56) 22 43 (.slice none 0 0) 24 rfl Try.underlying22 info43 rfl (by decide) (by omega) u11 x11_2 (rd_L2 t329 0) [.slice A353_0 (rd_L2 t329 0).length c353_0] (fun k_ => some k_ ≠ (.slice (some ad353) t329.length co9 : Value).ownBlock ∧ some k_ ≠ (v340 : Value).ownBlock ∧ some k_ ≠ (v348 : Value).ownBlock) (fun k_ => ((fun k_ => some k_ ≠ (.slice (some ad353) t329.length co9 : Value).ownBlock ∧ some k_ ≠ (v340 : Value).ownBlock ∧ some k_ ≠ (v348 : Value).ownBlock)) k_ ∧ some k_ ≠ (u11 : Value).ownBlock) rfl rfl ?aP (fun _ hk => hk) ?aF ?aO ?aB ?aS ?aL ?_; (case aP => exact (Kd.FK_slice_mk (Kd.V_reads' (Kd.V_mono (ok' := (fun k_ => ((fun k_ => some k_ ≠ (.slice (some ad353) t329.length co9 : Value).ownBlock ∧ some k_ ≠ (v340 : Value).ownBlock ∧ some k_ ≠ (v348 : Value).ownBlock)) k_ ∧ some k_ ≠ (u11 : Value).ownBlock)) (HL353_0.out) (fun k_ hk => ⟨⟨hk.2, ⟨hk.1.1, hk.1.2.1⟩⟩, hk.1.2.2⟩))).2.1 (Kd.V_F (Kd.V_mono (ok' := (fun k_ => ((fun k_ => some k_ ≠ (.slice (some ad353) t329.length co9 : Value).ownBlock ∧ some k_ ≠ (v340 : Value).ownBlock ∧ some k_ ≠ (v348 : Value).ownBlock)) k_ ∧ some k_ ≠ (u11 : Value).ownBlock)) (HL353_0.out) (fun k_ hk => ⟨⟨hk.2, ⟨hk.1.1, hk.1.2.1⟩⟩, hk.1.2.2⟩))))); (case aB => exact (by repeat (first | exact HB.out | apply below_alloc | apply pw_below_drewN | apply below_drew1))); (case aF => exact (fun k_ hk => ⟨Kd.fresh' (Kd.N_lt (by exact HO_3.out)) k_ hk, Kd.fresh' (Kd.N_lt (by exact HO_6.out)) k_ hk, Kd.fresh' (Kd.N_lt (by exact HO_10.out)) k_ hk⟩)); (case aO => exact (by exact HO_11.out)); (case aS => exact (below_size (by repeat (first | exact HB.out | apply below_alloc | apply pw_below_drewN | apply below_drew1)))); (case aL => have := LMc23.out; omega); intro v355 w24 ho hb hg hat; rw [← Ny354.out] at ho; have n0_ := Aside0.mk (Kd.N_afterv (ok := (fun k_ => some k_ ≠ (v340 : Value).ownBlock ∧ some k_ ≠ (v348 : Value).ownBlock)) (by exact Kd.N_mono HO_3.out (fun _ hk => ⟨⟨hk.1, hk.2.1⟩, hk.2.2⟩)) hg hat); have n1_ := Aside0.mk (Kd.N_afterv (ok := (fun k_ => some k_ ≠ (.slice (some ad353) t329.length co9 : Value).ownBlock ∧ some k_ ≠ (v348 : Value).ownBlock)) (by exact Kd.N_mono HO_6.out (fun _ hk => ⟨⟨hk.1, hk.2.1⟩, hk.2.2⟩)) hg hat); have n2_ := Aside0.mk (Kd.N_afterv (ok := (fun k_ => some k_ ≠ (.slice (some ad353) t329.length co9 : Value).ownBlock ∧ some k_ ≠ (v340 : Value).ownBlock)) (by exact Kd.N_mono HO_10.out (fun _ hk => ⟨⟨hk.1, hk.2.1⟩, hk.2.2⟩)) hg hat); have n3_ := Aside0.mk (Kd.V_afterv (ok := (fun k_ => some k_ ≠ (.slice (some ad353) t329.length co9 : Value).ownBlock ∧ some k_ ≠ (v340 : Value).ownBlock ∧ some k_ ≠ (v348 : Value).ownBlock)) (by exact Kd.V_mono HL353_0.out (fun _ hk => ⟨⟨hk.2, ⟨hk.1.1, hk.1.2.1⟩⟩, hk.1.2.2⟩)) hg hat); have n4_ := Aside0.mk (hb); have n5_ := Aside0.mk (ho); clear HO_3; clear HO_6; clear HO_10; clear HL353_0; clear HB; clear HO_11; have HO_3 := n0_; have HO_6 := n1_; have HO_10 := n2_; have HL353_0 := n3_; have HB := n4_; have HO356 := n5_; clear n0_ n1_ n2_ n3_ n4_ n5_; clear ho hb hg hat))
          go_roundg k2
          case measure => have := HJ6.out; have := HK2.out; omega
          case rel => exact ⟨(y354), (wrap64 (x12_2 + 1)), (by first | rfl | (simp; done) | (simp [*]; done)), H', ⟨by have := HJ6.out; have := HK2.out; omega⟩, ⟨by exact Kd.N_mono HO_3.out (fun _ hk => ⟨hk.1.1, ⟨hk.1.2, hk.2⟩⟩)⟩, ⟨by exact Kd.N_mono HO_6.out (fun _ hk => ⟨hk.1.1, ⟨hk.1.2, hk.2⟩⟩)⟩, ⟨by exact Kd.N_mono HO_10.out (fun _ hk => ⟨hk.1.1, ⟨hk.1.2, hk.2⟩⟩)⟩, ⟨by exact HO356.out⟩, ⟨by repeat (first | exact HB.out | apply below_alloc | apply pw_below_drewN | apply below_drew1)⟩⟩
         ·rw [if_neg c23] at H
          exact absurd H (by simp)
        ·rw [if_neg c22] at H
         exact absurd H (by simp)
       ·rw [if_neg c21] at H
        have c21b0 : decide (x12_2 < (t329.length : Int)) = false := decide_eq_false c21
        clear c21
        replace H := Option.bind_eq_some_iff.mp H
        obtain ⟨⟨t357, t358⟩, A250, H⟩ := H
        replace H : (if (t329.length : Int) > 1 then (laws_FnInverses.j2 k2 t329 t338 t339 t347 t358) else (laws_FnInverses.j2 k2 t329 t338 t339 t347 false)) = some r := H
        have A25 := Aside0.mk A250
        clear A250
        have HC26 := Aside0.mk H
        clear H
        obtain ⟨Ao27, co27, eo27⟩ := Kd.N_slice HO_11.out
        subst eo27
        go_upto_region 15 with (first | ((with_reducible refine gate_callee (f := 35) rfl ?_); refine goesL_ (some 60) rfl rfl Try.func35 (by kernel_rfl) rfl #[.slice Ao27 x11_2.length co27] rfl (by (try simp only [List.map_toArray, List.map_cons, List.map_nil]); first | done | rfl) ?_; (with_reducible refine (impl_InvM.calls _ _ x11_2 t357 t358 _ ?side1 ?side2 A25.out).mono ?_); (case side1 => repeat (first | exact (Kd.N_reads' HO_11.out).2.2 | (with_reducible refine Kd.C_alloc ?_ _) | (with_reducible refine Kd.C_drewN ?_ _) | (with_reducible refine Kd.C_drew ?_))); (case side2 => exact (Kd.N_reads' HO_11.out).2.1); rintro e w28 ⟨v359, rfl, ho0, hb⟩; refine ⟨_, rfl, ?_⟩; have n0_ := Aside0.mk (Kd.N_elder' (by exact HO_3.out) (Kd.S_base ho0) hb); have n1_ := Aside0.mk (Kd.N_elder' (by exact HO_6.out) (Kd.S_base ho0) hb); have n2_ := Aside0.mk (Kd.N_elder' (by exact HO_10.out) (Kd.S_base ho0) hb); have n3_ := Aside0.mk (Kd.N_elder' (by exact HO_11.out) (Kd.S_base ho0) hb); have n4_ := Aside0.mk (Kd.N_lower (Kd.N_mono (ok' := fun k_ => some k_ ≠ (.slice Ao9 t329.length co9 : Value).ownBlock ∧ some k_ ≠ (v340 : Value).ownBlock ∧ some k_ ≠ (v348 : Value).ownBlock ∧ some k_ ≠ (.slice Ao27 x11_2.length co27 : Value).ownBlock) (Kd.S_N (Kd.S_bound ho0)) (fun k_ hk_ => ⟨(Kd.fresh' (Kd.N_lt (by exact HO_3.out)) k_ hk_.2.1), (Kd.fresh' (Kd.N_lt (by exact HO_6.out)) k_ hk_.2.1), (Kd.fresh' (Kd.N_lt (by exact HO_10.out)) k_ hk_.2.1), (Kd.fresh' (Kd.N_lt (by exact HO_11.out)) k_ hk_.2.1)⟩)) (below_size (by repeat (first | exact HB.out | apply below_alloc | apply pw_below_drewN | apply below_drew1)))); have n5_ := Aside0.mk (below_step (by repeat (first | exact HB.out | apply below_alloc | apply pw_below_drewN | apply below_drew1)) hb); clear HO_3; clear HO_6; clear HO_10; clear HO_11; clear HB; have HO_3 := n0_; have HO_6 := n1_; have HO_10 := n2_; have HO_11 := n3_; have HO360 := n4_; have HB := n5_; clear n0_ n1_ n2_ n3_ n4_ n5_; (try clear hb); (try clear hk); (try clear ho0)))
        (try simp only [Act.put, List.setIfInBounds_toArray, List.set_cons_zero, List.set_cons_succ])
        go_cut [68] (fun v68 wc => ∃ (kq : Nat) (x68_25 : Bool), v68 = .bool x68_25 ∧ Aside0 (laws_FnInverses.j2 kq t329 t338 t339 t347 x68_25 = some r) ∧ Aside0 (kq ≤ k2) ∧ Aside0 (Kd.N (Kd.slice 3 (Kd.int .i64)) 43 wc w.heap.size (fun k_ => some k_ ≠ (v340 : Value).ownBlock ∧ some k_ ≠ (v348 : Value).ownBlock) (.slice Ao9 t329.length co9) t329) ∧ Aside0 (Kd.N (Kd.slice 3 (Kd.int .i64)) 43 wc w.heap.size (fun k_ => some k_ ≠ ((.slice Ao9 t329.length co9) : Value).ownBlock ∧ some k_ ≠ (v348 : Value).ownBlock) v340 t338) ∧ Aside0 (Kd.N (Kd.slice 3 (Kd.int .i64)) 43 wc w.heap.size (fun k_ => some k_ ≠ ((.slice Ao9 t329.length co9) : Value).ownBlock ∧ some k_ ≠ (v340 : Value).ownBlock) v348 t347) ∧ Aside0 (Below w.heap.size w wc))
        case first =>
         have H := HC26.out
         clear HC26
         by_cases c29 : (t329.length : Int) > 1
         ·rw [if_pos c29] at H
          have c29b0 : decide (1 < (t329.length : Int)) = true := decide_eq_true c29
          have c29b1 : decide (1 < t329.length) = true := decide_eq_true (by omega)
          clear c29
          (first | rw [c29b0] | (simp only [i64_w, i32_w]; rw [c29b0]) | rw [c29b1] | skip)
          have H' := Aside0.mk H
          clear H
          go_wp2
          go_meet
          case rel => exact ⟨_, (t358), (by first | rfl | (simp; done) | (simp [*]; done)), H', ⟨by have := HJ6.out; have := HK2.out; first | omega | exact Nat.le_refl _⟩, ⟨by exact Kd.N_mono HO_3.out (fun _ hk => ⟨hk.1.1, hk.1.2.1⟩)⟩, ⟨by exact Kd.N_mono HO_6.out (fun _ hk => ⟨hk.1.1, hk.1.2.1⟩)⟩, ⟨by exact Kd.N_mono HO_10.out (fun _ hk => ⟨hk.1.1, hk.1.2.1⟩)⟩, ⟨by repeat (first | exact HB.out | apply below_alloc | apply pw_below_drewN | apply below_drew1)⟩⟩
         ·rw [if_neg c29] at H
          have c29b0 : decide (1 < (t329.length : Int)) = false := decide_eq_false c29
          have c29b1 : decide (1 < t329.length) = false := decide_eq_false (by omega)
          clear c29
          (first | rw [c29b0] | (simp only [i64_w, i32_w]; rw [c29b0]) | rw [c29b1] | skip)
          have H' := Aside0.mk H
          clear H
          go_wp2
          go_meet
          case rel => exact ⟨_, (false), (by first | rfl | (simp; done) | (simp [*]; done)), H', ⟨by have := HJ6.out; have := HK2.out; first | omega | exact Nat.le_refl _⟩, ⟨by exact Kd.N_mono HO_3.out (fun _ hk => ⟨hk.1.1, hk.1.2.1⟩)⟩, ⟨by exact Kd.N_mono HO_6.out (fun _ hk => ⟨hk.1.1, hk.1.2.1⟩)⟩, ⟨by exact Kd.N_mono HO_10.out (fun _ hk => ⟨hk.1.1, hk.1.2.1⟩)⟩, ⟨by repeat (first | exact HB.out | apply below_alloc | apply pw_below_drewN | apply below_drew1)⟩⟩
        case rest =>
         clear HC26
         try clear c1; try clear c2; try clear p2; try clear c3; try clear p3; try clear q3; try clear hx3; try clear qi3; try clear p6; try clear c8; try clear c12; try clear c12b0; try clear c12b1; try clear c12b2; try clear c16; try clear c17; try clear c21; try clear c21b0; try clear c22; try clear c22b0; try clear c22b1; try clear c23; try clear c29; try clear c29b0; try clear c29b1; try clear hx353_0; try clear p2; try clear p353; try clear q353
         obtain ⟨kq, x68_25, rfl, HA, HJ25, HO_3, HO_6, HO_10, HB⟩ := hcut
         cases kq with
         | zero => exact absurd HA.out (by simp [laws_FnInverses.j2])
         | succ kj25 =>
          have H := HA.out
          clear HA
          simp only [laws_FnInverses.j2] at H
          by_cases c30 : x68_25 = true
          ·subst c30
           have H1 : (some false) = some r := by rw [if_pos rfl] at H; exact H
           clear H
           have H := H1
           clear H1
           obtain rfl := Option.some.inj H
           go_wp2
           go_ret
           exact ⟨by first | rfl | (simp [errW_none, errW_some] <;> rfl) | (simp [*, errW_none, errW_some] <;> rfl), by repeat (first | exact HB.out | apply below_alloc | apply pw_below_drewN | apply below_drew1)⟩
          ·replace c30 := Bool.eq_false_iff.mpr c30
           subst c30
           have H1 : (if t339 = true then ((spec_MulM.f kj25 t329 t338).bind fun t361 => ((laws_sameMatrix.f kj25 t361 t347).bind fun t364 => (if t364 = true then ((spec_MulM.f kj25 t338 t329).bind fun t365 => ((laws_sameMatrix.f kj25 t365 t347).bind fun t368 => (some t368))) else (some false)))) else (if (t338.length : Int) = 0 then (some true) else (some false))) = some r := by rw [if_neg (show ¬ (false = true) by decide)] at H; exact H
           clear H
           have H := H1
           clear H1
           by_cases c31 : t339 = true
           ·subst c31
            have H1 : ((spec_MulM.f kj25 t329 t338).bind fun t361 => ((laws_sameMatrix.f kj25 t361 t347).bind fun t364 => (if t364 = true then ((spec_MulM.f kj25 t338 t329).bind fun t365 => ((laws_sameMatrix.f kj25 t365 t347).bind fun t368 => (some t368))) else (some false)))) = some r := by rw [if_pos rfl] at H; exact H
            clear H
            have H := H1
            clear H1
            replace H := Option.bind_eq_some_iff.mp H
            obtain ⟨t361, A320, H⟩ := H
            replace H : ((laws_sameMatrix.f kj25 t361 t347).bind fun t364 => (if t364 = true then ((spec_MulM.f kj25 t338 t329).bind fun t365 => ((laws_sameMatrix.f kj25 t365 t347).bind fun t368 => (some t368))) else (some false))) = some r := H
            have A32 := Aside0.mk A320
            clear A320
            replace H := Option.bind_eq_some_iff.mp H
            obtain ⟨t364, A330, H⟩ := H
            replace H : (if t364 = true then ((spec_MulM.f kj25 t338 t329).bind fun t365 => ((laws_sameMatrix.f kj25 t365 t347).bind fun t368 => (some t368))) else (some false)) = some r := H
            have A33 := Aside0.mk A330
            clear A330
            by_cases c34 : t364 = true
            ·subst c34
             have H1 : ((spec_MulM.f kj25 t338 t329).bind fun t365 => ((laws_sameMatrix.f kj25 t365 t347).bind fun t368 => (some t368))) = some r := by rw [if_pos rfl] at H; exact H
             clear H
             have H := H1
             clear H1
             replace H := Option.bind_eq_some_iff.mp H
             obtain ⟨t365, A350, H⟩ := H
             replace H : ((laws_sameMatrix.f kj25 t365 t347).bind fun t368 => (some t368)) = some r := H
             have A35 := Aside0.mk A350
             clear A350
             replace H := Option.bind_eq_some_iff.mp H
             obtain ⟨t368, A360, H⟩ := H
             replace H : (some t368) = some r := H
             have A36 := Aside0.mk A360
             clear A360
             obtain rfl := Option.some.inj H
             obtain ⟨Ao37, co37, eo37⟩ := Kd.N_slice HO_6.out
             subst eo37
             go_wp2_with (first | (go_at_call 21; (with_reducible refine (spec_MulM.calls kj25 _ _ t329 _ _ t338 t361 _ ?side1 ?side2 ?side3 ?side4 A32.out).mono ?_); (case side1 => repeat (first | exact (Kd.N_reads' HO_3.out).2.2 | (with_reducible refine Kd.C_alloc ?_ _) | (with_reducible refine Kd.C_drewN ?_ _) | (with_reducible refine Kd.C_drew ?_))); (case side2 => exact (Kd.N_reads' HO_3.out).2.1); (case side3 => repeat (first | exact (Kd.N_reads' HO_6.out).2.2 | (with_reducible refine Kd.C_alloc ?_ _) | (with_reducible refine Kd.C_drewN ?_ _) | (with_reducible refine Kd.C_drew ?_))); (case side4 => exact (Kd.N_reads' HO_6.out).2.1); rintro e w38 ⟨v362, rfl, ho0, hb⟩; have n0_ := Aside0.mk (Kd.N_elder' (by exact HO_3.out) (Kd.S_base ho0) hb); have n1_ := Aside0.mk (Kd.N_elder' (by exact HO_6.out) (Kd.S_base ho0) hb); have n2_ := Aside0.mk (Kd.N_elder' (by exact HO_10.out) (Kd.S_base ho0) hb); have n3_ := Aside0.mk (Kd.N_lower (Kd.N_mono (ok' := fun k_ => some k_ ≠ (.slice Ao9 t329.length co9 : Value).ownBlock ∧ some k_ ≠ (.slice Ao37 t338.length co37 : Value).ownBlock ∧ some k_ ≠ (v348 : Value).ownBlock) (Kd.S_N (Kd.S_bound ho0)) (fun k_ hk_ => ⟨(Kd.fresh' (Kd.N_lt (by exact HO_3.out)) k_ hk_.2.1), (Kd.fresh' (Kd.N_lt (by exact HO_6.out)) k_ hk_.2.1), (Kd.fresh' (Kd.N_lt (by exact HO_10.out)) k_ hk_.2.1)⟩)) (below_size (by repeat (first | exact HB.out | apply below_alloc | apply pw_below_drewN | apply below_drew1)))); have n4_ := Aside0.mk (below_step (by repeat (first | exact HB.out | apply below_alloc | apply pw_below_drewN | apply below_drew1)) hb); clear HO_3; clear HO_6; clear HO_10; clear HB; have HO_3 := n0_; have HO_6 := n1_; have HO_10 := n2_; have HO363 := n3_; have HB := n4_; clear n0_ n1_ n2_ n3_ n4_; (try clear hb); (try clear hb2); (try clear hk); (try clear hi); (try clear ho0); obtain ⟨Ao39, co39, eo39⟩ := Kd.N_slice HO363.out; subst eo39; obtain ⟨Ao40, co40, eo40⟩ := Kd.N_slice HO_10.out; subst eo40) | (go_at_call 20; (with_reducible refine (laws_sameMatrix.calls kj25 _ _ t361 _ _ t347 true _ ?side1 ?side2 ?side3 ?side4 A33.out).mono ?_); (case side1 => repeat (first | exact (Kd.N_reads' HO363.out).2.2 | (with_reducible refine Kd.C_alloc ?_ _) | (with_reducible refine Kd.C_drewN ?_ _) | (with_reducible refine Kd.C_drew ?_))); (case side2 => exact (Kd.N_reads' HO363.out).2.1); (case side3 => repeat (first | exact (Kd.N_reads' HO_10.out).2.2 | (with_reducible refine Kd.C_alloc ?_ _) | (with_reducible refine Kd.C_drewN ?_ _) | (with_reducible refine Kd.C_drew ?_))); (case side4 => exact (Kd.N_reads' HO_10.out).2.1); rintro e w' ⟨rfl, ⟨nd, rfl⟩⟩) | (go_at_call 21; (with_reducible refine (spec_MulM.calls kj25 _ _ t338 _ _ t329 t365 _ ?side1 ?side2 ?side3 ?side4 A35.out).mono ?_); (case side1 => repeat (first | exact (Kd.N_reads' HO_6.out).2.2 | (with_reducible refine Kd.C_alloc ?_ _) | (with_reducible refine Kd.C_drewN ?_ _) | (with_reducible refine Kd.C_drew ?_))); (case side2 => exact (Kd.N_reads' HO_6.out).2.1); (case side3 => repeat (first | exact (Kd.N_reads' HO_3.out).2.2 | (with_reducible refine Kd.C_alloc ?_ _) | (with_reducible refine Kd.C_drewN ?_ _) | (with_reducible refine Kd.C_drew ?_))); (case side4 => exact (Kd.N_reads' HO_3.out).2.1); rintro e w41 ⟨v366, rfl, ho0, hb⟩; have n0_ := Aside0.mk (Kd.N_elder' (by exact HO_3.out) (Kd.S_base ho0) hb); have n1_ := Aside0.mk (Kd.N_elder' (by exact HO_6.out) (Kd.S_base ho0) hb); have n2_ := Aside0.mk (Kd.N_elder' (by exact HO_10.out) (Kd.S_base ho0) hb); have n3_ := Aside0.mk (Kd.N_elder' (by exact HO363.out) (Kd.S_base ho0) hb); have n4_ := Aside0.mk (Kd.N_lower (Kd.N_mono (ok' := fun k_ => some k_ ≠ (.slice Ao9 t329.length co9 : Value).ownBlock ∧ some k_ ≠ (.slice Ao37 t338.length co37 : Value).ownBlock ∧ some k_ ≠ (.slice Ao40 t347.length co40 : Value).ownBlock ∧ some k_ ≠ (.slice Ao39 t361.length co39 : Value).ownBlock) (Kd.S_N (Kd.S_bound ho0)) (fun k_ hk_ => ⟨(Kd.fresh' (Kd.N_lt (by exact HO_3.out)) k_ hk_.2.1), (Kd.fresh' (Kd.N_lt (by exact HO_6.out)) k_ hk_.2.1), (Kd.fresh' (Kd.N_lt (by exact HO_10.out)) k_ hk_.2.1), (Kd.fresh' (Kd.N_lt (by exact HO363.out)) k_ hk_.2.1)⟩)) (below_size (by repeat (first | exact HB.out | apply below_alloc | apply pw_below_drewN | apply below_drew1)))); have n5_ := Aside0.mk (below_step (by repeat (first | exact HB.out | apply below_alloc | apply pw_below_drewN | apply below_drew1)) hb); clear HO_3; clear HO_6; clear HO_10; clear HO363; clear HB; have HO_3 := n0_; have HO_6 := n1_; have HO_10 := n2_; have HO363 := n3_; have HO367 := n4_; have HB := n5_; clear n0_ n1_ n2_ n3_ n4_ n5_; (try clear hb); (try clear hb2); (try clear hk); (try clear hi); (try clear ho0); obtain ⟨Ao42, co42, eo42⟩ := Kd.N_slice HO367.out; subst eo42) | (go_at_call 20; (with_reducible refine (laws_sameMatrix.calls kj25 _ _ t365 _ _ t347 t368 _ ?side1 ?side2 ?side3 ?side4 A36.out).mono ?_); (case side1 => repeat (first | exact (Kd.N_reads' HO367.out).2.2 | (with_reducible refine Kd.C_alloc ?_ _) | (with_reducible refine Kd.C_drewN ?_ _) | (with_reducible refine Kd.C_drew ?_))); (case side2 => exact (Kd.N_reads' HO367.out).2.1); (case side3 => repeat (first | exact (Kd.N_reads' HO_10.out).2.2 | (with_reducible refine Kd.C_alloc ?_ _) | (with_reducible refine Kd.C_drewN ?_ _) | (with_reducible refine Kd.C_drew ?_))); (case side4 => exact (Kd.N_reads' HO_10.out).2.1); rintro e w' ⟨rfl, ⟨nd, rfl⟩⟩))
             go_ret
             exact ⟨by first | rfl | (simp [errW_none, errW_some] <;> rfl) | (simp [*, errW_none, errW_some] <;> rfl), by repeat (first | exact HB.out | apply below_alloc | apply pw_below_drewN | apply below_drew1)⟩
            ·replace c34 := Bool.eq_false_iff.mpr c34
             subst c34
             have H1 : (some false) = some r := by rw [if_neg (show ¬ (false = true) by decide)] at H; exact H
             clear H
             have H := H1
             clear H1
             obtain rfl := Option.some.inj H
             obtain ⟨Ao43, co43, eo43⟩ := Kd.N_slice HO_6.out
             subst eo43
             go_wp2_with (first | (go_at_call 21; (with_reducible refine (spec_MulM.calls kj25 _ _ t329 _ _ t338 t361 _ ?side1 ?side2 ?side3 ?side4 A32.out).mono ?_); (case side1 => repeat (first | exact (Kd.N_reads' HO_3.out).2.2 | (with_reducible refine Kd.C_alloc ?_ _) | (with_reducible refine Kd.C_drewN ?_ _) | (with_reducible refine Kd.C_drew ?_))); (case side2 => exact (Kd.N_reads' HO_3.out).2.1); (case side3 => repeat (first | exact (Kd.N_reads' HO_6.out).2.2 | (with_reducible refine Kd.C_alloc ?_ _) | (with_reducible refine Kd.C_drewN ?_ _) | (with_reducible refine Kd.C_drew ?_))); (case side4 => exact (Kd.N_reads' HO_6.out).2.1); rintro e w44 ⟨v362, rfl, ho0, hb⟩; have n0_ := Aside0.mk (Kd.N_elder' (by exact HO_3.out) (Kd.S_base ho0) hb); have n1_ := Aside0.mk (Kd.N_elder' (by exact HO_6.out) (Kd.S_base ho0) hb); have n2_ := Aside0.mk (Kd.N_elder' (by exact HO_10.out) (Kd.S_base ho0) hb); have n3_ := Aside0.mk (Kd.N_lower (Kd.N_mono (ok' := fun k_ => some k_ ≠ (.slice Ao9 t329.length co9 : Value).ownBlock ∧ some k_ ≠ (.slice Ao43 t338.length co43 : Value).ownBlock ∧ some k_ ≠ (v348 : Value).ownBlock) (Kd.S_N (Kd.S_bound ho0)) (fun k_ hk_ => ⟨(Kd.fresh' (Kd.N_lt (by exact HO_3.out)) k_ hk_.2.1), (Kd.fresh' (Kd.N_lt (by exact HO_6.out)) k_ hk_.2.1), (Kd.fresh' (Kd.N_lt (by exact HO_10.out)) k_ hk_.2.1)⟩)) (below_size (by repeat (first | exact HB.out | apply below_alloc | apply pw_below_drewN | apply below_drew1)))); have n4_ := Aside0.mk (below_step (by repeat (first | exact HB.out | apply below_alloc | apply pw_below_drewN | apply below_drew1)) hb); clear HO_3; clear HO_6; clear HO_10; clear HB; have HO_3 := n0_; have HO_6 := n1_; have HO_10 := n2_; have HO363 := n3_; have HB := n4_; clear n0_ n1_ n2_ n3_ n4_; (try clear hb); (try clear ho0); obtain ⟨Ao45, co45, eo45⟩ := Kd.N_slice HO363.out; subst eo45; obtain ⟨Ao46, co46, eo46⟩ := Kd.N_slice HO_10.out; subst eo46) | (go_at_call 20; (with_reducible refine (laws_sameMatrix.calls kj25 _ _ t361 _ _ t347 false _ ?side1 ?side2 ?side3 ?side4 A33.out).mono ?_); (case side1 => repeat (first | exact (Kd.N_reads' HO363.out).2.2 | (with_reducible refine Kd.C_alloc ?_ _) | (with_reducible refine Kd.C_drewN ?_ _) | (with_reducible refine Kd.C_drew ?_))); (case side2 => exact (Kd.N_reads' HO363.out).2.1); (case side3 => repeat (first | exact (Kd.N_reads' HO_10.out).2.2 | (with_reducible refine Kd.C_alloc ?_ _) | (with_reducible refine Kd.C_drewN ?_ _) | (with_reducible refine Kd.C_drew ?_))); (case side4 => exact (Kd.N_reads' HO_10.out).2.1); rintro e w' ⟨rfl, ⟨nd, rfl⟩⟩))
             go_ret
             exact ⟨by first | rfl | (simp [errW_none, errW_some] <;> rfl) | (simp [*, errW_none, errW_some] <;> rfl), by repeat (first | exact HB.out | apply below_alloc | apply pw_below_drewN | apply below_drew1)⟩
           ·replace c31 := Bool.eq_false_iff.mpr c31
            subst c31
            have H1 : (if (t338.length : Int) = 0 then (some true) else (some false)) = some r := by rw [if_neg (show ¬ (false = true) by decide)] at H; exact H
            clear H
            have H := H1
            clear H1
            by_cases c47 : (t338.length : Int) = 0
            ·rw [if_pos c47] at H
             have c47b0 : ((t338.length : Int) == 0) = true := beq_iff_eq.mpr c47
             have c47b1 : ((t338.length : Int) != 0) = false := bne_eq_false_iff_eq.mpr c47
             clear c47
             obtain rfl := Option.some.inj H
             obtain ⟨Ao48, co48, eo48⟩ := Kd.N_slice HO_6.out
             subst eo48
             go_wp2
             go_ret
             exact ⟨by first | rfl | (simp [errW_none, errW_some] <;> rfl) | (simp [*, errW_none, errW_some] <;> rfl), by repeat (first | exact HB.out | apply below_alloc | apply pw_below_drewN | apply below_drew1)⟩
            ·rw [if_neg c47] at H
             have c47b0 : ((t338.length : Int) == 0) = false := beq_eq_false_iff_ne.mpr c47
             have c47b1 : ((t338.length : Int) != 0) = true := bne_iff_ne.mpr c47
             have c47b2 : ¬ (t338 = []) := fun h_ => c47 (by rw [h_]; rfl)
             obtain rfl := Option.some.inj H
             obtain ⟨Ao49, co49, eo49⟩ := Kd.N_slice HO_6.out
             subst eo49
             go_wp2
             go_ret
             exact ⟨by first | rfl | (simp [errW_none, errW_some] <;> rfl) | (simp [*, errW_none, errW_some] <;> rfl), by repeat (first | exact HB.out | apply below_alloc | apply pw_below_drewN | apply below_drew1)⟩

/-- THE ONE PURE STATEMENT of laws_FnInverses: yours. -/
def laws_FnInverses.Pure : Prop := ∀ (l0 : List Int), l0.length ≤ maxLen → l0.length * 1 ≤ 140737488351232 → (∀ x ∈ l0, (Lit.int .u8 x).wf = true) → ∃ k, laws_FnInverses.f k l0 = some true
theorem laws_FnInverses.walk (P : laws_FnInverses.Pure) (a0 : Option Addr) (len0 cap0 : Nat) (z0 : List Int) (w : World) (w0 : (a0 = none ∧ len0 = 0 ∧ cap0 = 0 ∧ z0 = []) ∨ ∃ x, a0 = some x ∧ len0 ≤ cap0 ∧ cap0 ≤ maxLen ∧ z0.length = cap0 ∧ (∀ i, i < z0.length → w.cell? (x.add i) = some (.int .u8 (z0.getD i 0))) ∧ ∀ n ∈ z0, (Lit.int .u8 n).wf = true) (y0 : len0 * 1 ≤ 140737488351232) :
  Calls Try.prog 8 #[.slice a0 len0 cap0] w fun e w' => e = .returned (.bool true) ∧ Below w.heap.size w w' := by
 obtain ⟨l0, rfl, hr0, hm0, hw0, hc0⟩ := ReadsInt.ofRowC w0
 obtain ⟨k, h⟩ := P l0 hm0 y0 hw0
 refine (laws_FnInverses.calls k _ _ l0 true w (Kd.C_of_reads (d := (0 : Int)) (h1 := fun _ => rfl) hr0) hc0 h).mono ?_
 rintro e w' ⟨rfl, hd⟩
 exact ⟨rfl, hd⟩

end Go.Proofs.Ythjdnjmlamfdbaa.XFnInverses
