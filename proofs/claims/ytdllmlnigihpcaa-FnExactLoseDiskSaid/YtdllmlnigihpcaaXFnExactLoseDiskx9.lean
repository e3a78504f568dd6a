/- What the functions of a law compute, and that their calls compute it: written by a program of this session (xprint.py), which turns the kit print at a few places. -/
import Derived.Test.YtdllmlnigihpcaaXFnExactLoseDiskx0
import Derived.Test.YtdllmlnigihpcaaXFnExactLoseDiskx1
import Derived.Test.YtdllmlnigihpcaaXFnExactLoseDiskx4
import Derived.Test.YtdllmlnigihpcaaXFnExactLoseDiskx5
import Derived.Test.YtdllmlnigihpcaaXFnExactLoseDiskx7
import Derived.Test.YtdllmlnigihpcaaXFnExactLoseDiskx8
namespace Go.Proofs.Ytdllmlnigihpcaa.XFnExactLoseDisk
open Go.RowKit Go.Proofs.YtdllmlnigihpcaaV.PrintWords Go.Proofs.YtdllmlnigihpcaaV.PrintLast Go.Proofs.YtdllmlnigihpcaaV.PrintMore
attribute [local go_sem] max2_int min2_int max_two min_two max_three min_three max_four min_four   -- for this text's walks alone
set_option linter.unusedVariables false
set_option linter.unusedSimpArgs false

/-! ### laws_FnExactLoseDisk: function 7 -/
mutual
def laws_FnExactLoseDisk.j0 : Nat → List Int → Bool → List Int → Bool → Bool → List (S82) → List (S57) → List (S57) → List (S57) → Option (Bool)
 | 0, _, _, _, _, _, _, _, _, _ => none
 | k + 1, x1, x7, x9, x11, x51, x190000, x202000, x206000, x214000 => if x51 = true then (some false) else ((laws_toDisk.f k x190000).bind fun t215 => ((laws_eqDisk.f k x206000 t215).bind fun t218 => (if t218 = true then ((laws_toIntS.f k x1).bind fun t219 => ((laws_eqIntS.f k x9 t219).bind fun t222 => (if t222 = true then ((laws_markDisk.f k x206000 1).bind fun bt223 => ((laws_markIntS.f k x9 bt223.1).bind fun bt225 => (if bt225.1 < 0 then (laws_FnExactLoseDisk.j1 k x1 x7 true x190000 x202000 x214000) else ((laws_eqDisk.f k x214000 x202000).bind fun t227 => (if t227 = true then (laws_FnExactLoseDisk.j1 k x1 x7 (x11 != x7) x190000 x202000 x214000) else (laws_FnExactLoseDisk.j1 k x1 x7 true x190000 x202000 x214000)))))) else (some false)))) else (some false))))
def laws_FnExactLoseDisk.j1 : Nat → List Int → Bool → Bool → List (S82) → List (S57) → List (S57) → Option (Bool)
 | 0, _, _, _, _, _, _ => none
 | k + 1, x1, x7, x80, x190000, x202000, x214000 => if x80 = true then (some false) else ((laws_markDisk.f k x214000 1).bind fun bt228 => ((laws_heldDisk.f k bt228.2 1).bind fun t230 => (if t230 < 0 then (some false) else (if t230 = bt228.1 then ((laws_toDisk.f k x190000).bind fun t231 => ((laws_toIntS.f k x1).bind fun t234 => ((impl_LoseDisk.f k t231 t234).bind fun bt237 => ((laws_eqDisk.f k bt237.1 x202000).bind fun t242 => (if t242 = true then (laws_FnExactLoseDisk.j2 k bt228.1 (bt237.2 != x7) bt228.2) else (laws_FnExactLoseDisk.j2 k bt228.1 true bt228.2)))))) else (some false)))))
def laws_FnExactLoseDisk.j2 : Nat → Int → Bool → List (S57) → Option (Bool)
 | 0, _, _, _ => none
 | k + 1, x13, x108, x214000 => if x108 = true then (some false) else ((laws_heldDisk.f k x214000 1).bind fun t243 => (if t243 < 0 then (some false) else (if t243 = x13 then (some true) else (some false))))
end
def laws_FnExactLoseDisk.f (k : Nat) (l0_0 : List (S82)) (l1 : List Int) : Option (Bool) := if (l1.length : Int) > 1048576 then (some true) else ((laws_szDisk.f k l0_0 1048576).bind fun t190 => (if t190 < 0 then (some true) else ((laws_toDisk.f k l0_0).bind fun t191 => ((laws_toIntS.f k l1).bind fun t194 => ((spec_LoseDisk.f k t191 t194).bind fun bt197 => ((laws_toDisk.f k l0_0).bind fun t202 => ((laws_toIntS.f k l1).bind fun t206 => ((impl_LoseDisk.f k t202 t206).bind fun bt209 => ((laws_eqDisk.f k bt209.1 bt197.1).bind fun t214 => (if t214 = true then (laws_FnExactLoseDisk.j0 k l1 bt197.2 t206 bt209.2 (bt209.2 != bt197.2) l0_0 bt197.1 t202 bt209.1) else (laws_FnExactLoseDisk.j0 k l1 bt197.2 t206 bt209.2 true l0_0 bt197.1 t202 bt209.1)))))))))))
theorem laws_FnExactLoseDisk.mono_l : ∀ k, (∀ y0 y1 y2 y3 y4 y5 y6 y7 y8, LeO (laws_FnExactLoseDisk.j0 k y0 y1 y2 y3 y4 y5 y6 y7 y8) (laws_FnExactLoseDisk.j0 (k + 1) y0 y1 y2 y3 y4 y5 y6 y7 y8)) ∧ (∀ y0 y1 y2 y3 y4 y5, LeO (laws_FnExactLoseDisk.j1 k y0 y1 y2 y3 y4 y5) (laws_FnExactLoseDisk.j1 (k + 1) y0 y1 y2 y3 y4 y5)) ∧ (∀ y0 y1 y2, LeO (laws_FnExactLoseDisk.j2 k y0 y1 y2) (laws_FnExactLoseDisk.j2 (k + 1) y0 y1 y2))
 | 0 => ⟨fun _ _ _ _ _ _ _ _ _ r h => by simp [laws_FnExactLoseDisk.j0] at h, fun _ _ _ _ _ _ r h => by simp [laws_FnExactLoseDisk.j1] at h, fun _ _ _ r h => by simp [laws_FnExactLoseDisk.j2] at h⟩
 | k + 1 => by
  obtain ⟨ih0, ih1, ih2⟩ := laws_FnExactLoseDisk.mono_l k
  refine ⟨?_, ?_, ?_⟩
  ·intro y0 y1 y2 y3 y4 y5 y6 y7 y8
   unfold laws_FnExactLoseDisk.j0
   repeat' first
   | (with_reducible exact ih0 _ _ _ _ _ _ _ _ _)
   | (with_reducible exact ih1 _ _ _ _ _ _)
   | (with_reducible exact ih2 _ _ _)
   | (with_reducible exact impl_LoseDisk.mono _ _ _)
   | (with_reducible exact laws_eqDisk.mono _ _ _)
   | (with_reducible exact laws_eqIntS.mono _ _ _)
   | (with_reducible exact laws_heldDisk.mono _ _ _)
   | (with_reducible exact laws_markDisk.mono _ _ _)
   | (with_reducible exact laws_markIntS.mono _ _ _)
   | (with_reducible exact laws_szDisk.mono _ _ _)
   | (with_reducible exact laws_toDisk.mono _ _)
   | (with_reducible exact laws_toIntS.mono _ _)
   | (with_reducible exact spec_LoseDisk.mono _ _ _)
   | (with_reducible exact LeO.refl _)
   | (with_reducible exact LeO.none _)
   | (with_reducible refine LeO.ite ?_ ?_)
   | (with_reducible refine LeO.bind ?_ (fun _ => ?_))
   | exact ih0 _ _ _ _ _ _ _ _ _
   | exact ih1 _ _ _ _ _ _
   | exact ih2 _ _ _
   | exact impl_LoseDisk.mono _ _ _
   | exact laws_eqDisk.mono _ _ _
   | exact laws_eqIntS.mono _ _ _
   | exact laws_heldDisk.mono _ _ _
   | exact laws_markDisk.mono _ _ _
   | exact laws_markIntS.mono _ _ _
   | exact laws_szDisk.mono _ _ _
   | exact laws_toDisk.mono _ _
   | exact laws_toIntS.mono _ _
   | exact spec_LoseDisk.mono _ _ _
   | exact LeO.none _
   | refine LeO.ite ?_ ?_
   | refine LeO.bind ?_ (fun _ => ?_)
  ·intro y0 y1 y2 y3 y4 y5
   unfold laws_FnExactLoseDisk.j1
   repeat' first
   | (with_reducible exact ih0 _ _ _ _ _ _ _ _ _)
   | (with_reducible exact ih1 _ _ _ _ _ _)
   | (with_reducible exact ih2 _ _ _)
   | (with_reducible exact impl_LoseDisk.mono _ _ _)
   | (with_reducible exact laws_eqDisk.mono _ _ _)
   | (with_reducible exact laws_eqIntS.mono _ _ _)
   | (with_reducible exact laws_heldDisk.mono _ _ _)
   | (with_reducible exact laws_markDisk.mono _ _ _)
   | (with_reducible exact laws_markIntS.mono _ _ _)
   | (with_reducible exact laws_szDisk.mono _ _ _)
   | (with_reducible exact laws_toDisk.mono _ _)
   | (with_reducible exact laws_toIntS.mono _ _)
   | (with_reducible exact spec_LoseDisk.mono _ _ _)
   | (with_reducible exact LeO.refl _)
   | (with_reducible exact LeO.none _)
   | (with_reducible refine LeO.ite ?_ ?_)
   | (with_reducible refine LeO.bind ?_ (fun _ => ?_))
   | exact ih0 _ _ _ _ _ _ _ _ _
   | exact ih1 _ _ _ _ _ _
   | exact ih2 _ _ _
   | exact impl_LoseDisk.mono _ _ _
   | exact laws_eqDisk.mono _ _ _
   | exact laws_eqIntS.mono _ _ _
   | exact laws_heldDisk.mono _ _ _
   | exact laws_markDisk.mono _ _ _
   | exact laws_markIntS.mono _ _ _
   | exact laws_szDisk.mono _ _ _
   | exact laws_toDisk.mono _ _
   | exact laws_toIntS.mono _ _
   | exact spec_LoseDisk.mono _ _ _
   | exact LeO.none _
   | refine LeO.ite ?_ ?_
   | refine LeO.bind ?_ (fun _ => ?_)
  ·intro y0 y1 y2
   unfold laws_FnExactLoseDisk.j2
   repeat' first
   | (with_reducible exact ih0 _ _ _ _ _ _ _ _ _)
   | (with_reducible exact ih1 _ _ _ _ _ _)
   | (with_reducible exact ih2 _ _ _)
   | (with_reducible exact impl_LoseDisk.mono _ _ _)
   | (with_reducible exact laws_eqDisk.mono _ _ _)
   | (with_reducible exact laws_eqIntS.mono _ _ _)
   | (with_reducible exact laws_heldDisk.mono _ _ _)
   | (with_reducible exact laws_markDisk.mono _ _ _)
   | (with_reducible exact laws_markIntS.mono _ _ _)
   | (with_reducible exact laws_szDisk.mono _ _ _)
   | (with_reducible exact laws_toDisk.mono _ _)
   | (with_reducible exact laws_toIntS.mono _ _)
   | (with_reducible exact spec_LoseDisk.mono _ _ _)
   | (with_reducible exact LeO.refl _)
   | (with_reducible exact LeO.none _)
   | (with_reducible refine LeO.ite ?_ ?_)
   | (with_reducible refine LeO.bind ?_ (fun _ => ?_))
   | exact ih0 _ _ _ _ _ _ _ _ _
   | exact ih1 _ _ _ _ _ _
   | exact ih2 _ _ _
   | exact impl_LoseDisk.mono _ _ _
   | exact laws_eqDisk.mono _ _ _
   | exact laws_eqIntS.mono _ _ _
   | exact laws_heldDisk.mono _ _ _
   | exact laws_markDisk.mono _ _ _
   | exact laws_markIntS.mono _ _ _
   | exact laws_szDisk.mono _ _ _
   | exact laws_toDisk.mono _ _
   | exact laws_toIntS.mono _ _
   | exact spec_LoseDisk.mono _ _ _
   | exact LeO.none _
   | refine LeO.ite ?_ ?_
   | refine LeO.bind ?_ (fun _ => ?_)
theorem laws_FnExactLoseDisk.mono : ∀ a0 a1 k, LeO (laws_FnExactLoseDisk.f k a0 a1) (laws_FnExactLoseDisk.f (k + 1) a0 a1) := by
 intro a0 a1 k
 obtain ⟨ih0, ih1, ih2⟩ := laws_FnExactLoseDisk.mono_l k
 unfold laws_FnExactLoseDisk.f
 repeat' first
   | (with_reducible exact ih0 _ _ _ _ _ _ _ _ _)
   | (with_reducible exact ih1 _ _ _ _ _ _)
   | (with_reducible exact ih2 _ _ _)
   | (with_reducible exact impl_LoseDisk.mono _ _ _)
   | (with_reducible exact laws_eqDisk.mono _ _ _)
   | (with_reducible exact laws_eqIntS.mono _ _ _)
   | (with_reducible exact laws_heldDisk.mono _ _ _)
   | (with_reducible exact laws_markDisk.mono _ _ _)
   | (with_reducible exact laws_markIntS.mono _ _ _)
   | (with_reducible exact laws_szDisk.mono _ _ _)
   | (with_reducible exact laws_toDisk.mono _ _)
   | (with_reducible exact laws_toIntS.mono _ _)
   | (with_reducible exact spec_LoseDisk.mono _ _ _)
   | (with_reducible exact LeO.refl _)
   | (with_reducible exact LeO.none _)
   | (with_reducible refine LeO.ite ?_ ?_)
   | (with_reducible refine LeO.bind ?_ (fun _ => ?_))
   | exact ih0 _ _ _ _ _ _ _ _ _
   | exact ih1 _ _ _ _ _ _
   | exact ih2 _ _ _
   | exact impl_LoseDisk.mono _ _ _
   | exact laws_eqDisk.mono _ _ _
   | exact laws_eqIntS.mono _ _ _
   | exact laws_heldDisk.mono _ _ _
   | exact laws_markDisk.mono _ _ _
   | exact laws_markIntS.mono _ _ _
   | exact laws_szDisk.mono _ _ _
   | exact laws_toDisk.mono _ _
   | exact laws_toIntS.mono _ _
   | exact spec_LoseDisk.mono _ _ _
   | exact LeO.none _
   | refine LeO.ite ?_ ?_
   | refine LeO.bind ?_ (fun _ => ?_)
set_option maxHeartbeats 8000000 in
set_option maxRecDepth 100000 in
theorem laws_FnExactLoseDisk.calls (k : Nat) (A0_0 : Option Addr) (c0_0 : Nat) (l0_0 : List (S82)) (A1 : Option Addr) (c1 : Nat) (l1 : List Int) (r : Bool) (w : World) (hr0_0 : Kd.C k82 w A0_0 l0_0.length l0_0) (hc0_0 : l0_0.length ≤ c0_0) (hr1 : Kd.C (Kd.int .i64) w A1 l1.length l1) (hc1 : l1.length ≤ c1) (h : laws_FnExactLoseDisk.f k l0_0 l1 = some r) :
  Calls Try.prog 7 #[.agg #[.slice A0_0 l0_0.length c0_0], .slice A1 l1.length c1] w fun e w' => e = .returned (.bool r) ∧ Below w.heap.size w w' := by
 have hu34 := Try.underlying34
 have hu39 := Try.underlying39
 have HR0_0 := Aside0.mk hr0_0
 have HC0_0 := Aside0.mk hc0_0
 clear hr0_0 hc0_0
 have HR1 := Aside0.mk hr1
 have HC1 := Aside0.mk hc1
 clear hr1 hc1
 have HB := Aside0.mk (Below.refl w.heap.size w)
 have H : (if (l1.length : Int) > 1048576 then (some true) else ((laws_szDisk.f k l0_0 1048576).bind fun t190 => (if t190 < 0 then (some true) else ((laws_toDisk.f k l0_0).bind fun t191 => ((laws_toIntS.f k l1).bind fun t194 => ((spec_LoseDisk.f k t191 t194).bind fun bt197 => ((laws_toDisk.f k l0_0).bind fun t202 => ((laws_toIntS.f k l1).bind fun t206 => ((impl_LoseDisk.f k t202 t206).bind fun bt209 => ((laws_eqDisk.f k bt209.1 bt197.1).bind fun t214 => (if t214 = true then (laws_FnExactLoseDisk.j0 k l1 bt197.2 t206 bt209.2 (bt209.2 != bt197.2) l0_0 bt197.1 t202 bt209.1) else (laws_FnExactLoseDisk.j0 k l1 bt197.2 t206 bt209.2 true l0_0 bt197.1 t202 bt209.1)))))))))))) = some r := h
 clear h
 by_cases c3 : (l1.length : Int) > 1048576
 ·rw [if_pos c3] at H
  have c3b0 : decide (1048576 < (l1.length : Int)) = true := decide_eq_true c3
  have c3b1 : decide (1048576 < l1.length) = true := decide_eq_true (by omega)
  clear c3
  obtain rfl := Option.some.inj H
  go_enter Try.func7, Try.ntmps7
  go_wp2_with (first | ((with_reducible refine gate_dst (N := 2) rfl ?_); refine box_event ?hg (N := 2) ?hd (cs := #[.slice A0_0 l0_0.length c0_0]) (t := 34) ?hr ?_; (case hd => rfl); (case hg => rfl); (case hr => first | (go_simp; done) | (go_simp; rfl)); intro gb189 hg w4 hbox hb; have n0_ := Aside0.mk (below_step (by repeat (first | exact HB.out | apply below_alloc | apply pw_below_drewN | apply below_drew1)) hb); have n1_ := Aside0.mk (hbox); have n2_ := Aside0.mk ((by rw [hg]; exact (below_size (by repeat (first | exact HB.out | apply below_alloc | apply pw_below_drewN | apply below_drew1))) : w.heap.size ≤ gb189)); have n3_ := Aside0.mk ((by rw [hg]; exact (below_size (by repeat (first | exact HB.out | apply below_alloc | apply pw_below_drewN | apply below_drew1))) : w.heap.size ≤ gb189)); clear HB; have HB := n0_; have BK189 := n1_; have GW189 := n2_; have GE189 := n3_; clear n0_ n1_ n2_ n3_; clear hb hbox hg))
  go_ret
  exact ⟨by first | rfl | (simp [errW_none, errW_some] <;> rfl) | (simp [*, errW_none, errW_some] <;> rfl), by repeat (first | (with_reducible first | exact HB.out | apply below_alloc | apply pw_below_drewN | apply below_drew1 | refine below_set ?_ GE189.out) | exact HB.out)⟩
 ·rw [if_neg c3] at H
  have c3b0 : decide (1048576 < (l1.length : Int)) = false := decide_eq_false c3
  have c3b1 : decide (1048576 < l1.length) = false := decide_eq_false (by omega)
  clear c3
  replace H := Option.bind_eq_some_iff.mp H
  obtain ⟨t190, A50, H⟩ := H
  replace H : (if t190 < 0 then (some true) else ((laws_toDisk.f k l0_0).bind fun t191 => ((laws_toIntS.f k l1).bind fun t194 => ((spec_LoseDisk.f k t191 t194).bind fun bt197 => ((laws_toDisk.f k l0_0).bind fun t202 => ((laws_toIntS.f k l1).bind fun t206 => ((impl_LoseDisk.f k t202 t206).bind fun bt209 => ((laws_eqDisk.f k bt209.1 bt197.1).bind fun t214 => (if t214 = true then (laws_FnExactLoseDisk.j0 k l1 bt197.2 t206 bt209.2 (bt209.2 != bt197.2) l0_0 bt197.1 t202 bt209.1) else (laws_FnExactLoseDisk.j0 k l1 bt197.2 t206 bt209.2 true l0_0 bt197.1 t202 bt209.1)))))))))) = some r := H
  have A5 := Aside0.mk A50
  clear A50
  by_cases c6 : t190 < 0
  ·rw [if_pos c6] at H
   have c6b0 : decide (t190 < 0) = true := decide_eq_true c6
   clear c6
   obtain rfl := Option.some.inj H
   go_enter Try.func7, Try.ntmps7
   go_wp2_with (first | ((with_reducible refine gate_dst (N := 2) rfl ?_); refine box_event ?hg (N := 2) ?hd (cs := #[.slice A0_0 l0_0.length c0_0]) (t := 34) ?hr ?_; (case hd => rfl); (case hg => rfl); (case hr => first | (go_simp; done) | (go_simp; rfl)); intro gb189 hg w7 hbox hb; have n0_ := Aside0.mk (below_step (by repeat (first | exact HB.out | apply below_alloc | apply pw_below_drewN | apply below_drew1)) hb); have n1_ := Aside0.mk (hbox); have n2_ := Aside0.mk ((by rw [hg]; exact (below_size (by repeat (first | exact HB.out | apply below_alloc | apply pw_below_drewN | apply below_drew1))) : w.heap.size ≤ gb189)); have n3_ := Aside0.mk ((by rw [hg]; exact (below_size (by repeat (first | exact HB.out | apply below_alloc | apply pw_below_drewN | apply below_drew1))) : w.heap.size ≤ gb189)); clear HB; have HB := n0_; have BK189 := n1_; have GW189 := n2_; have GE189 := n3_; clear n0_ n1_ n2_ n3_; clear hb hbox hg; have hcz8_0 : w7.cell? ⟨gb189, 0, none⟩ = some (.slice A0_0 l0_0.length c0_0) := (blk_cell BK189.out 0).trans rfl; have hfz8_0 := blk_frozen BK189.out 0) | ((with_reducible refine gate_callee (f := 16) rfl ?_); refine goesL_ (some 22) rfl rfl Try.func16 (by kernel_rfl) rfl #[.agg #[.slice A0_0 l0_0.length c0_0], .int .i64 1048576] rfl (by (try simp only [List.map_toArray, List.map_cons, List.map_nil]); first | done | rfl) ?_; (with_reducible refine (laws_szDisk.calls k _ _ l0_0 1048576 t190 _ ?side1 ?side2 A5.out).mono ?_); (case side1 => repeat (first | exact (Kd.C_below HR0_0.out HB.out) | (with_reducible refine Kd.C_alloc ?_ _) | (with_reducible refine Kd.C_drewN ?_ _) | (with_reducible refine Kd.C_drew ?_))); (case side2 => exact HC0_0.out); rintro e w9 ⟨rfl, hb⟩; refine ⟨_, rfl, ?_⟩; have n0_ := Aside0.mk (blk_below (g := gb189) (o := .cells #[.slice A0_0 l0_0.length c0_0] 34 (0, 0)) (by (with_reducible repeat (first | refine blk_drewN ?_ _ | refine blk_drew ?_ | refine blk_alloc ?_ _)); exact BK189.out) hb); have n1_ := Aside0.mk (below_step (by repeat (first | (with_reducible first | exact HB.out | apply below_alloc | apply pw_below_drewN | apply below_drew1 | refine below_set ?_ GE189.out) | exact HB.out)) hb); clear BK189; clear HB; have BK189 := n0_; have HB := n1_; clear n0_ n1_; (try clear hb)))
   go_ret
   exact ⟨by first | rfl | (simp [errW_none, errW_some] <;> rfl) | (simp [*, errW_none, errW_some] <;> rfl), by repeat (first | (with_reducible first | exact HB.out | apply below_alloc | apply pw_below_drewN | apply below_drew1 | refine below_set ?_ GE189.out) | exact HB.out)⟩
  ·rw [if_neg c6] at H
   have c6b0 : decide (t190 < 0) = false := decide_eq_false c6
   clear c6
   replace H := Option.bind_eq_some_iff.mp H
   obtain ⟨t191, A100, H⟩ := H
   replace H : ((laws_toIntS.f k l1).bind fun t194 => ((spec_LoseDisk.f k t191 t194).bind fun bt197 => ((laws_toDisk.f k l0_0).bind fun t202 => ((laws_toIntS.f k l1).bind fun t206 => ((impl_LoseDisk.f k t202 t206).bind fun bt209 => ((laws_eqDisk.f k bt209.1 bt197.1).bind fun t214 => (if t214 = true then (laws_FnExactLoseDisk.j0 k l1 bt197.2 t206 bt209.2 (bt209.2 != bt197.2) l0_0 bt197.1 t202 bt209.1) else (laws_FnExactLoseDisk.j0 k l1 bt197.2 t206 bt209.2 true l0_0 bt197.1 t202 bt209.1)))))))) = some r := H
   have A10 := Aside0.mk A100
   clear A100
   replace H := Option.bind_eq_some_iff.mp H
   obtain ⟨t194, A110, H⟩ := H
   replace H : ((spec_LoseDisk.f k t191 t194).bind fun bt197 => ((laws_toDisk.f k l0_0).bind fun t202 => ((laws_toIntS.f k l1).bind fun t206 => ((impl_LoseDisk.f k t202 t206).bind fun bt209 => ((laws_eqDisk.f k bt209.1 bt197.1).bind fun t214 => (if t214 = true then (laws_FnExactLoseDisk.j0 k l1 bt197.2 t206 bt209.2 (bt209.2 != bt197.2) l0_0 bt197.1 t202 bt209.1) else (laws_FnExactLoseDisk.j0 k l1 bt197.2 t206 bt209.2 true l0_0 bt197.1 t202 bt209.1))))))) = some r := H
   have A11 := Aside0.mk A110
   clear A110
   replace H := Option.bind_eq_some_iff.mp H
   obtain ⟨⟨t197, t200⟩, A120, H⟩ := H
   replace H : ((laws_toDisk.f k l0_0).bind fun t202 => ((laws_toIntS.f k l1).bind fun t206 => ((impl_LoseDisk.f k t202 t206).bind fun bt209 => ((laws_eqDisk.f k bt209.1 t197).bind fun t214 => (if t214 = true then (laws_FnExactLoseDisk.j0 k l1 t200 t206 bt209.2 (bt209.2 != t200) l0_0 t197 t202 bt209.1) else (laws_FnExactLoseDisk.j0 k l1 t200 t206 bt209.2 true l0_0 t197 t202 bt209.1)))))) = some r := H
   have A12 := Aside0.mk A120
   clear A120
   replace H := Option.bind_eq_some_iff.mp H
   obtain ⟨t202, A130, H⟩ := H
   replace H : ((laws_toIntS.f k l1).bind fun t206 => ((impl_LoseDisk.f k t202 t206).bind fun bt209 => ((laws_eqDisk.f k bt209.1 t197).bind fun t214 => (if t214 = true then (laws_FnExactLoseDisk.j0 k l1 t200 t206 bt209.2 (bt209.2 != t200) l0_0 t197 t202 bt209.1) else (laws_FnExactLoseDisk.j0 k l1 t200 t206 bt209.2 true l0_0 t197 t202 bt209.1))))) = some r := H
   have A13 := Aside0.mk A130
   clear A130
   replace H := Option.bind_eq_some_iff.mp H
   obtain ⟨t206, A140, H⟩ := H
   replace H : ((impl_LoseDisk.f k t202 t206).bind fun bt209 => ((laws_eqDisk.f k bt209.1 t197).bind fun t214 => (if t214 = true then (laws_FnExactLoseDisk.j0 k l1 t200 t206 bt209.2 (bt209.2 != t200) l0_0 t197 t202 bt209.1) else (laws_FnExactLoseDisk.j0 k l1 t200 t206 bt209.2 true l0_0 t197 t202 bt209.1)))) = some r := H
   have A14 := Aside0.mk A140
   clear A140
   replace H := Option.bind_eq_some_iff.mp H
   obtain ⟨⟨t209, t212⟩, A150, H⟩ := H
   replace H : ((laws_eqDisk.f k t209 t197).bind fun t214 => (if t214 = true then (laws_FnExactLoseDisk.j0 k l1 t200 t206 t212 (t212 != t200) l0_0 t197 t202 t209) else (laws_FnExactLoseDisk.j0 k l1 t200 t206 t212 true l0_0 t197 t202 t209))) = some r := H
   have A15 := Aside0.mk A150
   clear A150
   have HC16 := Aside0.mk H
   clear H
   go_enter Try.func7, Try.ntmps7
   go_upto_region 11 with (first | ((with_reducible refine gate_dst (N := 2) rfl ?_); refine box_event ?hg (N := 2) ?hd (cs := #[.slice A0_0 l0_0.length c0_0]) (t := 34) ?hr ?_; (case hd => rfl); (case hg => rfl); (case hr => first | (go_simp; done) | (go_simp; rfl)); intro gb189 hg w17 hbox hb; have n0_ := Aside0.mk (below_step (by repeat (first | exact HB.out | apply below_alloc | apply pw_below_drewN | apply below_drew1)) hb); have n1_ := Aside0.mk (hbox); have n2_ := Aside0.mk ((by rw [hg]; exact (below_size (by repeat (first | exact HB.out | apply below_alloc | apply pw_below_drewN | apply below_drew1))) : w.heap.size ≤ gb189)); have n3_ := Aside0.mk ((by rw [hg]; exact (below_size (by repeat (first | exact HB.out | apply below_alloc | apply pw_below_drewN | apply below_drew1))) : w.heap.size ≤ gb189)); clear HB; have HB := n0_; have BK189 := n1_; have GW189 := n2_; have GE189 := n3_; clear n0_ n1_ n2_ n3_; clear hb hbox hg; have hcz18_0 : w17.cell? ⟨gb189, 0, none⟩ = some (.slice A0_0 l0_0.length c0_0) := (blk_cell BK189.out 0).trans rfl; have hfz18_0 := blk_frozen BK189.out 0) | ((with_reducible refine gate_callee (f := 16) rfl ?_); refine goesL_ (some 22) rfl rfl Try.func16 (by kernel_rfl) rfl #[.agg #[.slice A0_0 l0_0.length c0_0], .int .i64 1048576] rfl (by (try simp only [List.map_toArray, List.map_cons, List.map_nil]); first | done | rfl) ?_; (with_reducible refine (laws_szDisk.calls k _ _ l0_0 1048576 t190 _ ?side1 ?side2 A5.out).mono ?_); (case side1 => repeat (first | exact (Kd.C_below HR0_0.out HB.out) | (with_reducible refine Kd.C_alloc ?_ _) | (with_reducible refine Kd.C_drewN ?_ _) | (with_reducible refine Kd.C_drew ?_))); (case side2 => exact HC0_0.out); rintro e w19 ⟨rfl, hb⟩; refine ⟨_, rfl, ?_⟩; have n0_ := Aside0.mk (blk_below (g := gb189) (o := .cells #[.slice A0_0 l0_0.length c0_0] 34 (0, 0)) (by (with_reducible repeat (first | refine blk_drewN ?_ _ | refine blk_drew ?_ | refine blk_alloc ?_ _)); exact BK189.out) hb); have n1_ := Aside0.mk (below_step (by repeat (first | (with_reducible first | exact HB.out | apply below_alloc | apply pw_below_drewN | apply below_drew1 | refine below_set ?_ GE189.out) | exact HB.out)) hb); clear BK189; clear HB; have BK189 := n0_; have HB := n1_; clear n0_ n1_; (try clear hb); have hcz20_0 : w19.cell? ⟨gb189, 0, none⟩ = some (.slice A0_0 l0_0.length c0_0) := (blk_cell BK189.out 0).trans rfl; have hfz20_0 := blk_frozen BK189.out 0) | ((with_reducible refine gate_callee (f := 18) rfl ?_); refine goesL_ (some 27) rfl rfl Try.func18 (by kernel_rfl) rfl #[.agg #[.slice A0_0 l0_0.length c0_0]] rfl (by (try simp only [List.map_toArray, List.map_cons, List.map_nil]); first | done | rfl) ?_; (with_reducible refine (laws_toDisk.calls k _ _ l0_0 t191 _ ?side1 ?side2 A10.out).mono ?_); (case side1 => repeat (first | exact (Kd.C_below HR0_0.out HB.out) | (with_reducible refine Kd.C_alloc ?_ _) | (with_reducible refine Kd.C_drewN ?_ _) | (with_reducible refine Kd.C_drew ?_))); (case side2 => exact HC0_0.out); rintro e w21 ⟨v192, rfl, ho0, hb⟩; refine ⟨_, rfl, ?_⟩; have n0_ := Aside0.mk (Kd.R_lower ho0 (below_size (by repeat (first | (with_reducible first | exact HB.out | apply below_alloc | apply pw_below_drewN | apply below_drew1 | refine below_set ?_ GE189.out) | exact HB.out)))); have n1_ := Aside0.mk (blk_below (g := gb189) (o := .cells #[.slice A0_0 l0_0.length c0_0] 34 (0, 0)) (by (with_reducible repeat (first | refine blk_drewN ?_ _ | refine blk_drew ?_ | refine blk_alloc ?_ _)); exact BK189.out) hb); have n2_ := Aside0.mk (below_step (by repeat (first | (with_reducible first | exact HB.out | apply below_alloc | apply pw_below_drewN | apply below_drew1 | refine below_set ?_ GE189.out) | exact HB.out)) hb); clear BK189; clear HB; have HO193 := n0_; have BK189 := n1_; have HB := n2_; clear n0_ n1_ n2_; (try clear hb); (try clear ho0)) | ((with_reducible refine gate_callee (f := 29) rfl ?_); refine goesL_ (some 29) rfl rfl Try.func29 (by kernel_rfl) rfl #[.slice A1 l1.length c1] rfl (by (try simp only [List.map_toArray, List.map_cons, List.map_nil]); first | done | rfl) ?_; (with_reducible refine (laws_toIntS.calls k _ _ l1 t194 _ ?side1 ?side2 A11.out).mono ?_); (case side1 => repeat (first | exact (Kd.C_below HR1.out HB.out) | (with_reducible refine Kd.C_alloc ?_ _) | (with_reducible refine Kd.C_drewN ?_ _) | (with_reducible refine Kd.C_drew ?_))); (case side2 => exact HC1.out); rintro e w22 ⟨v195, rfl, ho0, hb⟩; refine ⟨_, rfl, ?_⟩; have n0_ := Aside0.mk (Kd.R_below (by exact HO193.out) hb); have n1_ := Aside0.mk (Kd.R_lower ho0 (below_size (by repeat (first | (with_reducible first | exact HB.out | apply below_alloc | apply pw_below_drewN | apply below_drew1 | refine below_set ?_ GE189.out) | exact HB.out)))); have n2_ := Aside0.mk (blk_below (g := gb189) (o := .cells #[.slice A0_0 l0_0.length c0_0] 34 (0, 0)) (by (with_reducible repeat (first | refine blk_drewN ?_ _ | refine blk_drew ?_ | refine blk_alloc ?_ _)); exact BK189.out) hb); have n3_ := Aside0.mk (below_step (by repeat (first | (with_reducible first | exact HB.out | apply below_alloc | apply pw_below_drewN | apply below_drew1 | refine below_set ?_ GE189.out) | exact HB.out)) hb); clear HO193; clear BK189; clear HB; have HO193 := n0_; have HO196 := n1_; have BK189 := n2_; have HB := n3_; clear n0_ n1_ n2_ n3_; (try clear hb); (try clear ho0); obtain ⟨Ao23, co23, eo23⟩ := Kd.R_slice HO193.out; subst eo23; obtain ⟨Ao24, co24, eo24⟩ := Kd.R_slice HO196.out; subst eo24) | ((with_reducible refine gate_callee (f := 28) rfl ?_); refine goesL_ (some 30) rfl rfl Try.func28 (by kernel_rfl) rfl #[.agg #[.slice Ao23 t191.length co23], .slice Ao24 t194.length co24] rfl (by (try simp only [List.map_toArray, List.map_cons, List.map_nil]); first | done | rfl) ?_; (with_reducible refine (spec_LoseDisk.calls k _ _ t191 _ _ t194 t197 t200 _ ?side1 ?side2 ?side3 ?side4 A12.out).mono ?_); (case side1 => repeat (first | exact (Kd.R_reads' HO193.out).2.2 | (with_reducible refine Kd.C_alloc ?_ _) | (with_reducible refine Kd.C_drewN ?_ _) | (with_reducible refine Kd.C_drew ?_))); (case side2 => exact (Kd.R_reads' HO193.out).2.1); (case side3 => repeat (first | exact (Kd.R_reads' HO196.out).2.2 | (with_reducible refine Kd.C_alloc ?_ _) | (with_reducible refine Kd.C_drewN ?_ _) | (with_reducible refine Kd.C_drew ?_))); (case side4 => exact (Kd.R_reads' HO196.out).2.1); rintro e w25 ⟨v198, rfl, ho0, hb⟩; refine ⟨_, rfl, ?_⟩; have n0_ := Aside0.mk (Kd.R_elder' (by exact HO193.out) (Kd.R_base ho0) hb); have n1_ := Aside0.mk (Kd.R_below (by exact HO196.out) hb); have n2_ := Aside0.mk (Kd.R_lower (Kd.R_new' ho0 (Kd.R_lt (by exact HO193.out))) (below_size (by repeat (first | (with_reducible first | exact HB.out | apply below_alloc | apply pw_below_drewN | apply below_drew1 | refine below_set ?_ GE189.out) | exact HB.out)))); have n3_ := Aside0.mk (blk_below (g := gb189) (o := .cells #[.slice A0_0 l0_0.length c0_0] 34 (0, 0)) (by (with_reducible repeat (first | refine blk_drewN ?_ _ | refine blk_drew ?_ | refine blk_alloc ?_ _)); exact BK189.out) hb); have n4_ := Aside0.mk (below_step (by repeat (first | (with_reducible first | exact HB.out | apply below_alloc | apply pw_below_drewN | apply below_drew1 | refine below_set ?_ GE189.out) | exact HB.out)) hb); clear HO193; clear HO196; clear BK189; clear HB; have HO193 := n0_; have HO196 := n1_; have HO199 := n2_; have BK189 := n3_; have HB := n4_; clear n0_ n1_ n2_ n3_ n4_; (try clear hb); (try clear ho0)) | ((with_reducible refine gate_dst (N := 6) rfl ?_); refine box_event ?hg (N := 6) ?hd (cs := #[.slice none 0 0]) (t := 39) ?hr ?_; (case hd => rfl); (case hg => rfl); (case hr => first | (go_simp; done) | (go_simp; rfl)); intro gb201 hg w26 hbox hb; have n0_ := Aside0.mk (Kd.R_below (by exact HO193.out) hb); have n1_ := Aside0.mk (Kd.R_below (by exact HO196.out) hb); have n2_ := Aside0.mk (Kd.R_below (by exact HO199.out) hb); have n3_ := Aside0.mk (blk_below (g := gb189) (o := .cells #[.slice A0_0 l0_0.length c0_0] 34 (0, 0)) (by (with_reducible repeat (first | refine blk_drewN ?_ _ | refine blk_drew ?_ | refine blk_alloc ?_ _)); exact BK189.out) hb); have n4_ := Aside0.mk (below_step (by repeat (first | (with_reducible first | exact HB.out | apply below_alloc | apply pw_below_drewN | apply below_drew1 | refine below_set ?_ GE189.out) | exact HB.out)) hb); have n5_ := Aside0.mk (hbox); have n6_ := Aside0.mk ((by rw [hg]; exact (below_size (by repeat (first | (with_reducible first | exact HB.out | apply below_alloc | apply pw_below_drewN | apply below_drew1 | refine below_set ?_ GE189.out) | exact HB.out))) : w.heap.size ≤ gb201)); have n7_ := Aside0.mk ((by rw [hg]; exact (below_size (by repeat (first | (with_reducible first | exact HB.out | apply below_alloc | apply pw_below_drewN | apply below_drew1 | refine below_set ?_ GE189.out) | exact HB.out))) : w.heap.size ≤ gb201)); have n8_ := Aside0.mk ((by rw [hg]; exact Nat.ne_of_lt (blk_lt (g := gb189) (o := .cells #[.slice A0_0 l0_0.length c0_0] 34 (0, 0)) (by (with_reducible repeat (first | refine blk_drewN ?_ _ | refine blk_drew ?_ | refine blk_alloc ?_ _)); exact BK189.out)) : gb189 ≠ gb201)); have n9_ := Aside0.mk ((by rw [hg]; exact Nat.ne_of_gt (blk_lt (g := gb189) (o := .cells #[.slice A0_0 l0_0.length c0_0] 34 (0, 0)) (by (with_reducible repeat (first | refine blk_drewN ?_ _ | refine blk_drew ?_ | refine blk_alloc ?_ _)); exact BK189.out)) : gb201 ≠ gb189)); clear HO193; clear HO196; clear HO199; clear BK189; clear HB; have HO193 := n0_; have HO196 := n1_; have HO199 := n2_; have BK189 := n3_; have HB := n4_; have BK201 := n5_; have GW201 := n6_; have GE201 := n7_; have NB189_201 := n8_; have NB201_189 := n9_; clear n0_ n1_ n2_ n3_ n4_ n5_ n6_ n7_ n8_ n9_; clear hb hbox hg; obtain ⟨Ao27, co27, eo27⟩ := Kd.R_slice HO199.out; subst eo27; have hnb28 := NB201_189.out; have hnc28 := NB189_201.out; have hcz29_0 : w26.cell? ⟨gb201, 0, none⟩ = some (.slice none 0 0) := (blk_cell BK201.out 0).trans rfl; have hfz29_0 := blk_frozen BK201.out 0; have hcz30_0 : w26.cell? ⟨gb189, 0, none⟩ = some (.slice A0_0 l0_0.length c0_0) := (blk_cell BK189.out 0).trans rfl; have hfz30_0 := blk_frozen BK189.out 0) | ((with_reducible refine gate_callee (f := 18) rfl ?_); refine goesL_ (some 34) rfl rfl Try.func18 (by kernel_rfl) rfl #[.agg #[.slice A0_0 l0_0.length c0_0]] rfl (by (try simp only [List.map_toArray, List.map_cons, List.map_nil]); first | done | rfl) ?_; (with_reducible refine (laws_toDisk.calls k _ _ l0_0 t202 _ ?side1 ?side2 A13.out).mono ?_); (case side1 => exact Kd.C_below HR0_0.out (by repeat (first | (with_reducible first | exact HB.out | apply below_alloc | apply pw_below_drewN | apply below_drew1 | refine below_set ?_ GE189.out | refine below_set ?_ GE201.out) | exact HB.out))); (case side2 => exact HC0_0.out); rintro e w31 ⟨v203, rfl, ho0, hb⟩; refine ⟨_, rfl, ?_⟩; have n0_ := Aside0.mk (Kd.R_elder' (by exact (Kd.R_mono (Kd.R_far (p := ⟨gb201, 0, none⟩) (Kd.R_types HO193.out BK201.out (by decide)) (fun _ hk => hk.2) (.slice Ao27 t197.length co27)) (fun _ h_ => h_.1))) (Kd.R_base ho0) hb); have n1_ := Aside0.mk (Kd.R_below (by exact (Kd.R_mono (Kd.R_far (p := ⟨gb201, 0, none⟩) (Kd.R_types HO196.out BK201.out (by decide)) (fun _ hk => hk.2) (.slice Ao27 t197.length co27)) (fun _ h_ => h_.1))) hb); have n2_ := Aside0.mk (Kd.R_elder' (by exact (Kd.R_mono (Kd.R_far (p := ⟨gb201, 0, none⟩) (Kd.R_types HO199.out BK201.out (by decide)) (fun _ hk => hk.2) (.slice Ao27 t197.length co27)) (fun _ h_ => h_.1))) (Kd.R_base ho0) hb); have n3_ := Aside0.mk (Kd.R_lower (Kd.R_new' (Kd.R_new' ho0 (Kd.R_lt (by exact (Kd.R_mono (Kd.R_far (p := ⟨gb201, 0, none⟩) (Kd.R_types HO193.out BK201.out (by decide)) (fun _ hk => hk.2) (.slice Ao27 t197.length co27)) (fun _ h_ => h_.1))))) (Kd.R_lt (by exact (Kd.R_mono (Kd.R_far (p := ⟨gb201, 0, none⟩) (Kd.R_types HO199.out BK201.out (by decide)) (fun _ hk => hk.2) (.slice Ao27 t197.length co27)) (fun _ h_ => h_.1))))) (below_size (by repeat (first | (with_reducible first | exact HB.out | apply below_alloc | apply pw_below_drewN | apply below_drew1 | refine below_set ?_ GE189.out | refine below_set ?_ GE201.out) | exact HB.out)))); have n4_ := Aside0.mk (blk_below (g := gb189) (o := .cells #[.slice A0_0 l0_0.length c0_0] 34 (0, 0)) (by (with_reducible repeat (first | refine blk_drewN ?_ _ | refine blk_drew ?_ | refine blk_alloc ?_ _)); refine blk_far ?_ NB189_201.out _; (with_reducible repeat (first | refine blk_drewN ?_ _ | refine blk_drew ?_ | refine blk_alloc ?_ _)); exact BK189.out) hb); have n5_ := Aside0.mk (blk_below (g := gb201) (o := .cells #[.slice Ao27 t197.length co27] 39 (0, 0)) (by (with_reducible repeat (first | refine blk_drewN ?_ _ | refine blk_drew ?_ | refine blk_alloc ?_ _)); refine blk_put (cs := #[.slice none 0 0]) ?_ 0 _ rfl; (with_reducible repeat (first | refine blk_drewN ?_ _ | refine blk_drew ?_ | refine blk_alloc ?_ _)); exact BK201.out) hb); have n6_ := Aside0.mk (below_step (by repeat (first | (with_reducible first | exact HB.out | apply below_alloc | apply pw_below_drewN | apply below_drew1 | refine below_set ?_ GE189.out | refine below_set ?_ GE201.out) | exact HB.out)) hb); clear HO193; clear HO196; clear HO199; clear BK189; clear BK201; clear HB; have HO193 := n0_; have HO196 := n1_; have HO199 := n2_; have HO204 := n3_; have BK189 := n4_; have BK201 := n5_; have HB := n6_; clear n0_ n1_ n2_ n3_ n4_ n5_ n6_; (try clear hb); (try clear hk); (try clear ho0)) | ((with_reducible refine gate_dst (N := 8) rfl ?_); refine box_event ?hg (N := 8) ?hd (cs := #[.slice none 0 0]) (t := 39) ?hr ?_; (case hd => rfl); (case hg => rfl); (case hr => first | (go_simp; done) | (go_simp; rfl)); intro gb205 hg w32 hbox hb; have n0_ := Aside0.mk (Kd.R_below (by exact HO193.out) hb); have n1_ := Aside0.mk (Kd.R_below (by exact HO196.out) hb); have n2_ := Aside0.mk (Kd.R_below (by exact HO199.out) hb); have n3_ := Aside0.mk (Kd.R_below (by exact HO204.out) hb); have n4_ := Aside0.mk (blk_below (g := gb189) (o := .cells #[.slice A0_0 l0_0.length c0_0] 34 (0, 0)) (by (with_reducible repeat (first | refine blk_drewN ?_ _ | refine blk_drew ?_ | refine blk_alloc ?_ _)); exact BK189.out) hb); have n5_ := Aside0.mk (blk_below (g := gb201) (o := .cells #[.slice Ao27 t197.length co27] 39 (0, 0)) (by (with_reducible repeat (first | refine blk_drewN ?_ _ | refine blk_drew ?_ | refine blk_alloc ?_ _)); exact BK201.out) hb); have n6_ := Aside0.mk (below_step (by repeat (first | (with_reducible first | exact HB.out | apply below_alloc | apply pw_below_drewN | apply below_drew1 | refine below_set ?_ GE189.out | refine below_set ?_ GE201.out) | exact HB.out)) hb); have n7_ := Aside0.mk (hbox); have n8_ := Aside0.mk ((by rw [hg]; exact (below_size (by repeat (first | (with_reducible first | exact HB.out | apply below_alloc | apply pw_below_drewN | apply below_drew1 | refine below_set ?_ GE189.out | refine below_set ?_ GE201.out) | exact HB.out))) : w.heap.size ≤ gb205)); have n9_ := Aside0.mk ((by rw [hg]; exact (below_size (by repeat (first | (with_reducible first | exact HB.out | apply below_alloc | apply pw_below_drewN | apply below_drew1 | refine below_set ?_ GE189.out | refine below_set ?_ GE201.out) | exact HB.out))) : w.heap.size ≤ gb205)); have n10_ := Aside0.mk ((by rw [hg]; exact Nat.ne_of_lt (blk_lt (g := gb189) (o := .cells #[.slice A0_0 l0_0.length c0_0] 34 (0, 0)) (by (with_reducible repeat (first | refine blk_drewN ?_ _ | refine blk_drew ?_ | refine blk_alloc ?_ _)); exact BK189.out)) : gb189 ≠ gb205)); have n11_ := Aside0.mk ((by rw [hg]; exact Nat.ne_of_gt (blk_lt (g := gb189) (o := .cells #[.slice A0_0 l0_0.length c0_0] 34 (0, 0)) (by (with_reducible repeat (first | refine blk_drewN ?_ _ | refine blk_drew ?_ | refine blk_alloc ?_ _)); exact BK189.out)) : gb205 ≠ gb189)); have n12_ := Aside0.mk ((by rw [hg]; exact Nat.ne_of_lt (blk_lt (g := gb201) (o := .cells #[.slice Ao27 t197.length co27] 39 (0, 0)) (by (with_reducible repeat (first | refine blk_drewN ?_ _ | refine blk_drew ?_ | refine blk_alloc ?_ _)); exact BK201.out)) : gb201 ≠ gb205)); have n13_ := Aside0.mk ((by rw [hg]; exact Nat.ne_of_gt (blk_lt (g := gb201) (o := .cells #[.slice Ao27 t197.length co27] 39 (0, 0)) (by (with_reducible repeat (first | refine blk_drewN ?_ _ | refine blk_drew ?_ | refine blk_alloc ?_ _)); exact BK201.out)) : gb205 ≠ gb201)); clear HO193; clear HO196; clear HO199; clear HO204; clear BK189; clear BK201; clear HB; have HO193 := n0_; have HO196 := n1_; have HO199 := n2_; have HO204 := n3_; have BK189 := n4_; have BK201 := n5_; have HB := n6_; have BK205 := n7_; have GW205 := n8_; have GE205 := n9_; have NB189_205 := n10_; have NB205_189 := n11_; have NB201_205 := n12_; have NB205_201 := n13_; clear n0_ n1_ n2_ n3_ n4_ n5_ n6_ n7_ n8_ n9_ n10_ n11_ n12_ n13_; clear hb hbox hg; obtain ⟨Ao33, co33, eo33⟩ := Kd.R_slice HO204.out; subst eo33; have hnb34 := NB205_189.out; have hnc34 := NB189_205.out; have hnb35 := NB205_201.out; have hnc35 := NB201_205.out; have hcz36_0 : w32.cell? ⟨gb205, 0, none⟩ = some (.slice none 0 0) := (blk_cell BK205.out 0).trans rfl; have hfz36_0 := blk_frozen BK205.out 0) | ((with_reducible refine gate_callee (f := 29) rfl ?_); refine goesL_ (some 36) rfl rfl Try.func29 (by kernel_rfl) rfl #[.slice A1 l1.length c1] rfl (by (try simp only [List.map_toArray, List.map_cons, List.map_nil]); first | done | rfl) ?_; (with_reducible refine (laws_toIntS.calls k _ _ l1 t206 _ ?side1 ?side2 A14.out).mono ?_); (case side1 => exact Kd.C_below HR1.out (by repeat (first | (with_reducible first | exact HB.out | apply below_alloc | apply pw_below_drewN | apply below_drew1 | refine below_set ?_ GE189.out | refine below_set ?_ GE201.out | refine below_set ?_ GE205.out) | exact HB.out))); (case side2 => exact HC1.out); rintro e w37 ⟨v207, rfl, ho0, hb⟩; refine ⟨_, rfl, ?_⟩; have n0_ := Aside0.mk (Kd.R_below (by exact (Kd.R_mono (Kd.R_far (p := ⟨gb205, 0, none⟩) (Kd.R_types HO193.out BK205.out (by decide)) (fun _ hk => hk.2) (.slice Ao33 t202.length co33)) (fun _ h_ => h_.1))) hb); have n1_ := Aside0.mk (Kd.R_elder' (by exact (Kd.R_mono (Kd.R_far (p := ⟨gb205, 0, none⟩) (Kd.R_types HO196.out BK205.out (by decide)) (fun _ hk => hk.2) (.slice Ao33 t202.length co33)) (fun _ h_ => h_.1))) (Kd.R_base ho0) hb); have n2_ := Aside0.mk (Kd.R_below (by exact (Kd.R_mono (Kd.R_far (p := ⟨gb205, 0, none⟩) (Kd.R_types HO199.out BK205.out (by decide)) (fun _ hk => hk.2) (.slice Ao33 t202.length co33)) (fun _ h_ => h_.1))) hb); have n3_ := Aside0.mk (Kd.R_below (by exact (Kd.R_mono (Kd.R_far (p := ⟨gb205, 0, none⟩) (Kd.R_types HO204.out BK205.out (by decide)) (fun _ hk => hk.2) (.slice Ao33 t202.length co33)) (fun _ h_ => h_.1))) hb); have n4_ := Aside0.mk (Kd.R_lower (Kd.R_new' ho0 (Kd.R_lt (by exact (Kd.R_mono (Kd.R_far (p := ⟨gb205, 0, none⟩) (Kd.R_types HO196.out BK205.out (by decide)) (fun _ hk => hk.2) (.slice Ao33 t202.length co33)) (fun _ h_ => h_.1))))) (below_size (by repeat (first | (with_reducible first | exact HB.out | apply below_alloc | apply pw_below_drewN | apply below_drew1 | refine below_set ?_ GE189.out | refine below_set ?_ GE201.out | refine below_set ?_ GE205.out) | exact HB.out)))); have n5_ := Aside0.mk (blk_below (g := gb189) (o := .cells #[.slice A0_0 l0_0.length c0_0] 34 (0, 0)) (by (with_reducible repeat (first | refine blk_drewN ?_ _ | refine blk_drew ?_ | refine blk_alloc ?_ _)); refine blk_far ?_ NB189_205.out _; (with_reducible repeat (first | refine blk_drewN ?_ _ | refine blk_drew ?_ | refine blk_alloc ?_ _)); exact BK189.out) hb); have n6_ := Aside0.mk (blk_below (g := gb201) (o := .cells #[.slice Ao27 t197.length co27] 39 (0, 0)) (by (with_reducible repeat (first | refine blk_drewN ?_ _ | refine blk_drew ?_ | refine blk_alloc ?_ _)); refine blk_far ?_ NB201_205.out _; (with_reducible repeat (first | refine blk_drewN ?_ _ | refine blk_drew ?_ | refine blk_alloc ?_ _)); exact BK201.out) hb); have n7_ := Aside0.mk (blk_below (g := gb205) (o := .cells #[.slice Ao33 t202.length co33] 39 (0, 0)) (by (with_reducible repeat (first | refine blk_drewN ?_ _ | refine blk_drew ?_ | refine blk_alloc ?_ _)); refine blk_put (cs := #[.slice none 0 0]) ?_ 0 _ rfl; (with_reducible repeat (first | refine blk_drewN ?_ _ | refine blk_drew ?_ | refine blk_alloc ?_ _)); exact BK205.out) hb); have n8_ := Aside0.mk (below_step (by repeat (first | (with_reducible first | exact HB.out | apply below_alloc | apply pw_below_drewN | apply below_drew1 | refine below_set ?_ GE189.out | refine below_set ?_ GE201.out | refine below_set ?_ GE205.out) | exact HB.out)) hb); clear HO193; clear HO196; clear HO199; clear HO204; clear BK189; clear BK201; clear BK205; clear HB; have HO193 := n0_; have HO196 := n1_; have HO199 := n2_; have HO204 := n3_; have HO208 := n4_; have BK189 := n5_; have BK201 := n6_; have BK205 := n7_; have HB := n8_; clear n0_ n1_ n2_ n3_ n4_ n5_ n6_ n7_ n8_; (try clear hb); (try clear hk); (try clear ho0); have hcz38_0 : w37.cell? ⟨gb205, 0, none⟩ = some (.slice Ao33 t202.length co33) := (blk_cell BK205.out 0).trans rfl; have hfz38_0 := blk_frozen BK205.out 0; obtain ⟨Ao39, co39, eo39⟩ := Kd.R_slice HO208.out; subst eo39) | ((with_reducible refine gate_callee (f := 30) rfl ?_); refine goesL_ (some 40) rfl rfl Try.func30 (by kernel_rfl) rfl #[.agg #[.slice Ao33 t202.length co33], .slice Ao39 t206.length co39] rfl (by (try simp only [List.map_toArray, List.map_cons, List.map_nil]); first | done | rfl) ?_; (with_reducible refine (impl_LoseDisk.calls k _ _ t202 _ _ t206 t209 t212 _ ?side1 ?side2 ?side3 ?side4 A15.out).mono ?_); (case side1 => repeat (first | exact (Kd.R_reads' HO204.out).2.2 | (with_reducible refine Kd.C_alloc ?_ _) | (with_reducible refine Kd.C_drewN ?_ _) | (with_reducible refine Kd.C_drew ?_))); (case side2 => exact (Kd.R_reads' HO204.out).2.1); (case side3 => repeat (first | exact (Kd.R_reads' HO208.out).2.2 | (with_reducible refine Kd.C_alloc ?_ _) | (with_reducible refine Kd.C_drewN ?_ _) | (with_reducible refine Kd.C_drew ?_))); (case side4 => exact (Kd.R_reads' HO208.out).2.1); rintro e w40 ⟨v210, rfl, ho0, hb⟩; refine ⟨_, rfl, ?_⟩; have n0_ := Aside0.mk (Kd.R_elder' (by exact HO193.out) (Kd.R_base ho0) hb); have n1_ := Aside0.mk (Kd.R_below (by exact HO196.out) hb); have n2_ := Aside0.mk (Kd.R_elder' (by exact HO199.out) (Kd.R_base ho0) hb); have n3_ := Aside0.mk (Kd.R_elder' (by exact HO204.out) (Kd.R_base ho0) hb); have n4_ := Aside0.mk (Kd.R_below (by exact HO208.out) hb); have n5_ := Aside0.mk (Kd.R_lower (Kd.R_new' (Kd.R_new' (Kd.R_new' ho0 (Kd.R_lt (by exact HO193.out))) (Kd.R_lt (by exact HO199.out))) (Kd.R_lt (by exact HO204.out))) (below_size (by repeat (first | (with_reducible first | exact HB.out | apply below_alloc | apply pw_below_drewN | apply below_drew1 | refine below_set ?_ GE189.out | refine below_set ?_ GE201.out | refine below_set ?_ GE205.out) | exact HB.out)))); have n6_ := Aside0.mk (blk_below (g := gb189) (o := .cells #[.slice A0_0 l0_0.length c0_0] 34 (0, 0)) (by (with_reducible repeat (first | refine blk_drewN ?_ _ | refine blk_drew ?_ | refine blk_alloc ?_ _)); exact BK189.out) hb); have n7_ := Aside0.mk (blk_below (g := gb201) (o := .cells #[.slice Ao27 t197.length co27] 39 (0, 0)) (by (with_reducible repeat (first | refine blk_drewN ?_ _ | refine blk_drew ?_ | refine blk_alloc ?_ _)); exact BK201.out) hb); have n8_ := Aside0.mk (blk_below (g := gb205) (o := .cells #[.slice Ao33 t202.length co33] 39 (0, 0)) (by (with_reducible repeat (first | refine blk_drewN ?_ _ | refine blk_drew ?_ | refine blk_alloc ?_ _)); exact BK205.out) hb); have n9_ := Aside0.mk (below_step (by repeat (first | (with_reducible first | exact HB.out | apply below_alloc | apply pw_below_drewN | apply below_drew1 | refine below_set ?_ GE189.out | refine below_set ?_ GE201.out | refine below_set ?_ GE205.out) | exact HB.out)) hb); clear HO193; clear HO196; clear HO199; clear HO204; clear HO208; clear BK189; clear BK201; clear BK205; clear HB; have HO193 := n0_; have HO196 := n1_; have HO199 := n2_; have HO204 := n3_; have HO208 := n4_; have HO211 := n5_; have BK189 := n6_; have BK201 := n7_; have BK205 := n8_; have HB := n9_; clear n0_ n1_ n2_ n3_ n4_ n5_ n6_ n7_ n8_ n9_; (try clear hb); (try clear ho0)) | ((with_reducible refine gate_dst (N := 10) rfl ?_); refine box_event ?hg (N := 10) ?hd (cs := #[.slice none 0 0]) (t := 39) ?hr ?_; (case hd => rfl); (case hg => rfl); (case hr => first | (go_simp; done) | (go_simp; rfl)); intro gb213 hg w41 hbox hb; have n0_ := Aside0.mk (Kd.R_below (by exact HO193.out) hb); have n1_ := Aside0.mk (Kd.R_below (by exact HO196.out) hb); have n2_ := Aside0.mk (Kd.R_below (by exact HO199.out) hb); have n3_ := Aside0.mk (Kd.R_below (by exact HO204.out) hb); have n4_ := Aside0.mk (Kd.R_below (by exact HO208.out) hb); have n5_ := Aside0.mk (Kd.R_below (by exact HO211.out) hb); have n6_ := Aside0.mk (blk_below (g := gb189) (o := .cells #[.slice A0_0 l0_0.length c0_0] 34 (0, 0)) (by (with_reducible repeat (first | refine blk_drewN ?_ _ | refine blk_drew ?_ | refine blk_alloc ?_ _)); exact BK189.out) hb); have n7_ := Aside0.mk (blk_below (g := gb201) (o := .cells #[.slice Ao27 t197.length co27] 39 (0, 0)) (by (with_reducible repeat (first | refine blk_drewN ?_ _ | refine blk_drew ?_ | refine blk_alloc ?_ _)); exact BK201.out) hb); have n8_ := Aside0.mk (blk_below (g := gb205) (o := .cells #[.slice Ao33 t202.length co33] 39 (0, 0)) (by (with_reducible repeat (first | refine blk_drewN ?_ _ | refine blk_drew ?_ | refine blk_alloc ?_ _)); exact BK205.out) hb); have n9_ := Aside0.mk (below_step (by repeat (first | (with_reducible first | exact HB.out | apply below_alloc | apply pw_below_drewN | apply below_drew1 | refine below_set ?_ GE189.out | refine below_set ?_ GE201.out | refine below_set ?_ GE205.out) | exact HB.out)) hb); have n10_ := Aside0.mk (hbox); have n11_ := Aside0.mk ((by rw [hg]; exact (below_size (by repeat (first | (with_reducible first | exact HB.out | apply below_alloc | apply pw_below_drewN | apply below_drew1 | refine below_set ?_ GE189.out | refine below_set ?_ GE201.out | refine below_set ?_ GE205.out) | exact HB.out))) : w.heap.size ≤ gb213)); have n12_ := Aside0.mk ((by rw [hg]; exact (below_size (by repeat (first | (with_reducible first | exact HB.out | apply below_alloc | apply pw_below_drewN | apply below_drew1 | refine below_set ?_ GE189.out | refine below_set ?_ GE201.out | refine below_set ?_ GE205.out) | exact HB.out))) : w.heap.size ≤ gb213)); have n13_ := Aside0.mk ((by rw [hg]; exact Nat.ne_of_lt (blk_lt (g := gb189) (o := .cells #[.slice A0_0 l0_0.length c0_0] 34 (0, 0)) (by (with_reducible repeat (first | refine blk_drewN ?_ _ | refine blk_drew ?_ | refine blk_alloc ?_ _)); exact BK189.out)) : gb189 ≠ gb213)); have n14_ := Aside0.mk ((by rw [hg]; exact Nat.ne_of_gt (blk_lt (g := gb189) (o := .cells #[.slice A0_0 l0_0.length c0_0] 34 (0, 0)) (by (with_reducible repeat (first | refine blk_drewN ?_ _ | refine blk_drew ?_ | refine blk_alloc ?_ _)); exact BK189.out)) : gb213 ≠ gb189)); have n15_ := Aside0.mk ((by rw [hg]; exact Nat.ne_of_lt (blk_lt (g := gb201) (o := .cells #[.slice Ao27 t197.length co27] 39 (0, 0)) (by (with_reducible repeat (first | refine blk_drewN ?_ _ | refine blk_drew ?_ | refine blk_alloc ?_ _)); exact BK201.out)) : gb201 ≠ gb213)); have n16_ := Aside0.mk ((by rw [hg]; exact Nat.ne_of_gt (blk_lt (g := gb201) (o := .cells #[.slice Ao27 t197.length co27] 39 (0, 0)) (by (with_reducible repeat (first | refine blk_drewN ?_ _ | refine blk_drew ?_ | refine blk_alloc ?_ _)); exact BK201.out)) : gb213 ≠ gb201)); have n17_ := Aside0.mk ((by rw [hg]; exact Nat.ne_of_lt (blk_lt (g := gb205) (o := .cells #[.slice Ao33 t202.length co33] 39 (0, 0)) (by (with_reducible repeat (first | refine blk_drewN ?_ _ | refine blk_drew ?_ | refine blk_alloc ?_ _)); exact BK205.out)) : gb205 ≠ gb213)); have n18_ := Aside0.mk ((by rw [hg]; exact Nat.ne_of_gt (blk_lt (g := gb205) (o := .cells #[.slice Ao33 t202.length co33] 39 (0, 0)) (by (with_reducible repeat (first | refine blk_drewN ?_ _ | refine blk_drew ?_ | refine blk_alloc ?_ _)); exact BK205.out)) : gb213 ≠ gb205)); clear HO193; clear HO196; clear HO199; clear HO204; clear HO208; clear HO211; clear BK189; clear BK201; clear BK205; clear HB; have HO193 := n0_; have HO196 := n1_; have HO199 := n2_; have HO204 := n3_; have HO208 := n4_; have HO211 := n5_; have BK189 := n6_; have BK201 := n7_; have BK205 := n8_; have HB := n9_; have BK213 := n10_; have GW213 := n11_; have GE213 := n12_; have NB189_213 := n13_; have NB213_189 := n14_; have NB201_213 := n15_; have NB213_201 := n16_; have NB205_213 := n17_; have NB213_205 := n18_; clear n0_ n1_ n2_ n3_ n4_ n5_ n6_ n7_ n8_ n9_ n10_ n11_ n12_ n13_ n14_ n15_ n16_ n17_ n18_; clear hb hbox hg; obtain ⟨Ao42, co42, eo42⟩ := Kd.R_slice HO211.out; subst eo42; have hnb43 := NB213_189.out; have hnc43 := NB189_213.out; have hnb44 := NB213_201.out; have hnc44 := NB201_213.out; have hnb45 := NB213_205.out; have hnc45 := NB205_213.out; have hcz46_0 : w41.cell? ⟨gb213, 0, none⟩ = some (.slice none 0 0) := (blk_cell BK213.out 0).trans rfl; have hfz46_0 := blk_frozen BK213.out 0))
   (try simp only [Act.put, List.setIfInBounds_toArray, List.set_cons_zero, List.set_cons_succ])
   go_cut [51] (fun v51 wc => ∃ (kq : Nat) (x51_15 : Bool), v51 = .bool x51_15 ∧ Aside0 (laws_FnExactLoseDisk.j0 kq l1 t200 t206 t212 x51_15 l0_0 t197 t202 t209 = some r) ∧ Aside0 (kq ≤ k) ∧ Aside0 (Kd.R (Kd.int .i64) 3 wc w.heap.size (fun _ => True) (.slice Ao39 t206.length co39) t206) ∧ Aside0 (Kd.R k57 57 wc w.heap.size (fun k_ => some k_ ≠ ((.slice Ao33 t202.length co33) : Value).ownBlock ∧ some k_ ≠ ((.slice Ao42 t209.length co42) : Value).ownBlock) (.slice Ao27 t197.length co27) t197) ∧ Aside0 (Kd.R k57 57 wc w.heap.size (fun k_ => some k_ ≠ ((.slice Ao27 t197.length co27) : Value).ownBlock ∧ some k_ ≠ ((.slice Ao42 t209.length co42) : Value).ownBlock) (.slice Ao33 t202.length co33) t202) ∧ Aside0 (Kd.R k57 57 wc w.heap.size (fun k_ => some k_ ≠ ((.slice Ao27 t197.length co27) : Value).ownBlock ∧ some k_ ≠ ((.slice Ao33 t202.length co33) : Value).ownBlock) (.slice Ao42 t209.length co42) t209) ∧ Aside0 (wc.heap[gb189]? = some (.cells #[(.slice A0_0 l0_0.length c0_0)] 34 (0, 0))) ∧ Aside0 (wc.heap[gb201]? = some (.cells #[(.slice Ao27 t197.length co27)] 39 (0, 0))) ∧ Aside0 (wc.heap[gb205]? = some (.cells #[(.slice Ao33 t202.length co33)] 39 (0, 0))) ∧ Aside0 (wc.heap[gb213]? = some (.cells #[(.slice Ao42 t209.length co42)] 39 (0, 0))) ∧ Aside0 (Below w.heap.size w wc))
   case first =>
    have H := HC16.out
    clear HC16
    replace H := Option.bind_eq_some_iff.mp H
    obtain ⟨t214, A470, H⟩ := H
    replace H : (if t214 = true then (laws_FnExactLoseDisk.j0 k l1 t200 t206 t212 (t212 != t200) l0_0 t197 t202 t209) else (laws_FnExactLoseDisk.j0 k l1 t200 t206 t212 true l0_0 t197 t202 t209)) = some r := H
    have A47 := Aside0.mk A470
    clear A470
    by_cases c48 : t214 = true
    ·subst c48
     have H1 : (laws_FnExactLoseDisk.j0 k l1 t200 t206 t212 (t212 != t200) l0_0 t197 t202 t209) = some r := by rw [if_pos rfl] at H; exact H
     clear H
     have H := H1
     clear H1
     have H' := Aside0.mk H
     clear H
     have hnb49 := NB213_189.out
     have hnc49 := NB189_213.out
     have hnb50 := NB213_201.out
     have hnc50 := NB201_213.out
     have hnb51 := NB213_205.out
     have hnc51 := NB205_213.out
     have hcz52_0 : w41.cell? ⟨gb213, 0, none⟩ = some (.slice none 0 0) := (blk_cell BK213.out 0).trans rfl
     have hfz52_0 := blk_frozen BK213.out 0
     have hnb53 := NB201_189.out
     have hnc53 := NB189_201.out
     have hnb54 := NB201_205.out
     have hnc54 := NB205_201.out
     have hcz55_0 : w41.cell? ⟨gb201, 0, none⟩ = some (.slice Ao27 t197.length co27) := (blk_cell BK201.out 0).trans rfl
     have hfz55_0 := blk_frozen BK201.out 0
     go_wp2_with (first | ((with_reducible refine gate_callee (f := 20) rfl ?_); refine goesL_ (some 45) rfl rfl Try.func20 (by kernel_rfl) rfl #[.agg #[.slice Ao42 t209.length co42], .agg #[.slice Ao27 t197.length co27]] rfl (by (try simp only [List.map_toArray, List.map_cons, List.map_nil]); first | done | rfl) ?_; (with_reducible refine (laws_eqDisk.calls k _ _ t209 _ _ t197 true _ ?side1 ?side2 ?side3 ?side4 A47.out).mono ?_); (case side1 => refine (Kd.R_reads' (e := 57) (base := w.heap.size) (ok := fun k_ => (((True ∧ some k_ ≠ (.slice Ao23 t191.length co23 : Value).ownBlock) ∧ some k_ ≠ (.slice Ao27 t197.length co27 : Value).ownBlock) ∧ some k_ ≠ (.slice Ao33 t202.length co33 : Value).ownBlock)) (n := t209.length) (c := co42) ?_).2.2; exact (by exact (Kd.R_mono (Kd.R_far (p := ⟨gb213, 0, none⟩) (Kd.R_types HO211.out BK213.out (by decide)) (fun _ hk => hk.2) (.slice Ao42 t209.length co42)) (fun _ h_ => h_.1)))); (case side2 => exact (Kd.R_reads' HO211.out).2.1); (case side3 => refine (Kd.R_reads' (e := 57) (base := w.heap.size) (ok := fun k_ => (((True ∧ some k_ ≠ (.slice Ao23 t191.length co23 : Value).ownBlock) ∧ some k_ ≠ (.slice Ao33 t202.length co33 : Value).ownBlock) ∧ some k_ ≠ (.slice Ao42 t209.length co42 : Value).ownBlock)) (n := t197.length) (c := co27) ?_).2.2; exact (by exact (Kd.R_mono (Kd.R_far (p := ⟨gb213, 0, none⟩) (Kd.R_types HO199.out BK213.out (by decide)) (fun _ hk => hk.2) (.slice Ao42 t209.length co42)) (fun _ h_ => h_.1)))); (case side4 => exact (Kd.R_reads' HO199.out).2.1); rintro e w56 ⟨rfl, hb⟩; refine ⟨_, rfl, ?_⟩; have n0_ := Aside0.mk (Kd.R_below (by exact (Kd.R_mono (Kd.R_far (p := ⟨gb213, 0, none⟩) (Kd.R_types HO193.out BK213.out (by decide)) (fun _ hk => hk.2) (.slice Ao42 t209.length co42)) (fun _ h_ => h_.1))) hb); have n1_ := Aside0.mk (Kd.R_below (by exact (Kd.R_mono (Kd.R_far (p := ⟨gb213, 0, none⟩) (Kd.R_types HO196.out BK213.out (by decide)) (fun _ hk => hk.2) (.slice Ao42 t209.length co42)) (fun _ h_ => h_.1))) hb); have n2_ := Aside0.mk (Kd.R_below (by exact (Kd.R_mono (Kd.R_far (p := ⟨gb213, 0, none⟩) (Kd.R_types HO199.out BK213.out (by decide)) (fun _ hk => hk.2) (.slice Ao42 t209.length co42)) (fun _ h_ => h_.1))) hb); have n3_ := Aside0.mk (Kd.R_below (by exact (Kd.R_mono (Kd.R_far (p := ⟨gb213, 0, none⟩) (Kd.R_types HO204.out BK213.out (by decide)) (fun _ hk => hk.2) (.slice Ao42 t209.length co42)) (fun _ h_ => h_.1))) hb); have n4_ := Aside0.mk (Kd.R_below (by exact (Kd.R_mono (Kd.R_far (p := ⟨gb213, 0, none⟩) (Kd.R_types HO208.out BK213.out (by decide)) (fun _ hk => hk.2) (.slice Ao42 t209.length co42)) (fun _ h_ => h_.1))) hb); have n5_ := Aside0.mk (Kd.R_below (by exact (Kd.R_mono (Kd.R_far (p := ⟨gb213, 0, none⟩) (Kd.R_types HO211.out BK213.out (by decide)) (fun _ hk => hk.2) (.slice Ao42 t209.length co42)) (fun _ h_ => h_.1))) hb); have n6_ := Aside0.mk (blk_below (g := gb189) (o := .cells #[.slice A0_0 l0_0.length c0_0] 34 (0, 0)) (by (with_reducible repeat (first | refine blk_drewN ?_ _ | refine blk_drew ?_ | refine blk_alloc ?_ _)); refine blk_far ?_ NB189_213.out _; (with_reducible repeat (first | refine blk_drewN ?_ _ | refine blk_drew ?_ | refine blk_alloc ?_ _)); exact BK189.out) hb); have n7_ := Aside0.mk (blk_below (g := gb201) (o := .cells #[.slice Ao27 t197.length co27] 39 (0, 0)) (by (with_reducible repeat (first | refine blk_drewN ?_ _ | refine blk_drew ?_ | refine blk_alloc ?_ _)); refine blk_far ?_ NB201_213.out _; (with_reducible repeat (first | refine blk_drewN ?_ _ | refine blk_drew ?_ | refine blk_alloc ?_ _)); exact BK201.out) hb); have n8_ := Aside0.mk (blk_below (g := gb205) (o := .cells #[.slice Ao33 t202.length co33] 39 (0, 0)) (by (with_reducible repeat (first | refine blk_drewN ?_ _ | refine blk_drew ?_ | refine blk_alloc ?_ _)); refine blk_far ?_ NB205_213.out _; (with_reducible repeat (first | refine blk_drewN ?_ _ | refine blk_drew ?_ | refine blk_alloc ?_ _)); exact BK205.out) hb); have n9_ := Aside0.mk (blk_below (g := gb213) (o := .cells #[.slice Ao42 t209.length co42] 39 (0, 0)) (by (with_reducible repeat (first | refine blk_drewN ?_ _ | refine blk_drew ?_ | refine blk_alloc ?_ _)); refine blk_put (cs := #[.slice none 0 0]) ?_ 0 _ rfl; (with_reducible repeat (first | refine blk_drewN ?_ _ | refine blk_drew ?_ | refine blk_alloc ?_ _)); exact BK213.out) hb); have n10_ := Aside0.mk (below_step (by repeat (first | (with_reducible first | exact HB.out | apply below_alloc | apply pw_below_drewN | apply below_drew1 | refine below_set ?_ GE189.out | refine below_set ?_ GE201.out | refine below_set ?_ GE205.out | refine below_set ?_ GE213.out) | exact HB.out)) hb); clear HO193; clear HO196; clear HO199; clear HO204; clear HO208; clear HO211; clear BK189; clear BK201; clear BK205; clear BK213; clear HB; have HO193 := n0_; have HO196 := n1_; have HO199 := n2_; have HO204 := n3_; have HO208 := n4_; have HO211 := n5_; have BK189 := n6_; have BK201 := n7_; have BK205 := n8_; have BK213 := n9_; have HB := n10_; clear n0_ n1_ n2_ n3_ n4_ n5_ n6_ n7_ n8_ n9_ n10_; (try clear hb); (try clear hk)))
     go_meet
     case rel => exact ⟨_, ((t212 != t200)), (by first | rfl | (simp; done) | (simp [*]; done)), H', ⟨by first | omega | exact Nat.le_refl _⟩, ⟨by exact Kd.R_mono HO208.out (fun _ hk => trivial)⟩, ⟨by exact Kd.R_mono HO199.out (fun _ hk => ⟨hk.1.2, hk.2⟩)⟩, ⟨by exact Kd.R_mono HO204.out (fun _ hk => ⟨hk.1.2, hk.2⟩)⟩, ⟨by exact Kd.R_mono HO211.out (fun _ hk => ⟨hk.1.2, hk.2⟩)⟩, ⟨by (with_reducible repeat (first | refine blk_drewN ?_ _ | refine blk_drew ?_ | refine blk_alloc ?_ _)); exact BK189.out⟩, ⟨by (with_reducible repeat (first | refine blk_drewN ?_ _ | refine blk_drew ?_ | refine blk_alloc ?_ _)); exact BK201.out⟩, ⟨by (with_reducible repeat (first | refine blk_drewN ?_ _ | refine blk_drew ?_ | refine blk_alloc ?_ _)); exact BK205.out⟩, ⟨by (with_reducible repeat (first | refine blk_drewN ?_ _ | refine blk_drew ?_ | refine blk_alloc ?_ _)); exact BK213.out⟩, ⟨by repeat (first | (with_reducible first | exact HB.out | apply below_alloc | apply pw_below_drewN | apply below_drew1 | refine below_set ?_ GE189.out | refine below_set ?_ GE201.out | refine below_set ?_ GE205.out | refine below_set ?_ GE213.out) | exact HB.out)⟩⟩
    ·replace c48 := Bool.eq_false_iff.mpr c48
     subst c48
     have H1 : (laws_FnExactLoseDisk.j0 k l1 t200 t206 t212 true l0_0 t197 t202 t209) = some r := by rw [if_neg (show ¬ (false = true) by decide)] at H; exact H
     clear H
     have H := H1
     clear H1
     have H' := Aside0.mk H
     clear H
     have hnb57 := NB213_189.out
     have hnc57 := NB189_213.out
     have hnb58 := NB213_201.out
     have hnc58 := NB201_213.out
     have hnb59 := NB213_205.out
     have hnc59 := NB205_213.out
     have hcz60_0 : w41.cell? ⟨gb213, 0, none⟩ = some (.slice none 0 0) := (blk_cell BK213.out 0).trans rfl
     have hfz60_0 := blk_frozen BK213.out 0
     have hnb61 := NB201_189.out
     have hnc61 := NB189_201.out
     have hnb62 := NB201_205.out
     have hnc62 := NB205_201.out
     have hcz63_0 : w41.cell? ⟨gb201, 0, none⟩ = some (.slice Ao27 t197.length co27) := (blk_cell BK201.out 0).trans rfl
     have hfz63_0 := blk_frozen BK201.out 0
     go_wp2_with (first | ((with_reducible refine gate_callee (f := 20) rfl ?_); refine goesL_ (some 45) rfl rfl Try.func20 (by kernel_rfl) rfl #[.agg #[.slice Ao42 t209.length co42], .agg #[.slice Ao27 t197.length co27]] rfl (by (try simp only [List.map_toArray, List.map_cons, List.map_nil]); first | done | rfl) ?_; (with_reducible refine (laws_eqDisk.calls k _ _ t209 _ _ t197 false _ ?side1 ?side2 ?side3 ?side4 A47.out).mono ?_); (case side1 => refine (Kd.R_reads' (e := 57) (base := w.heap.size) (ok := fun k_ => (((True ∧ some k_ ≠ (.slice Ao23 t191.length co23 : Value).ownBlock) ∧ some k_ ≠ (.slice Ao27 t197.length co27 : Value).ownBlock) ∧ some k_ ≠ (.slice Ao33 t202.length co33 : Value).ownBlock)) (n := t209.length) (c := co42) ?_).2.2; exact (by exact (Kd.R_mono (Kd.R_far (p := ⟨gb213, 0, none⟩) (Kd.R_types HO211.out BK213.out (by decide)) (fun _ hk => hk.2) (.slice Ao42 t209.length co42)) (fun _ h_ => h_.1)))); (case side2 => exact (Kd.R_reads' HO211.out).2.1); (case side3 => refine (Kd.R_reads' (e := 57) (base := w.heap.size) (ok := fun k_ => (((True ∧ some k_ ≠ (.slice Ao23 t191.length co23 : Value).ownBlock) ∧ some k_ ≠ (.slice Ao33 t202.length co33 : Value).ownBlock) ∧ some k_ ≠ (.slice Ao42 t209.length co42 : Value).ownBlock)) (n := t197.length) (c := co27) ?_).2.2; exact (by exact (Kd.R_mono (Kd.R_far (p := ⟨gb213, 0, none⟩) (Kd.R_types HO199.out BK213.out (by decide)) (fun _ hk => hk.2) (.slice Ao42 t209.length co42)) (fun _ h_ => h_.1)))); (case side4 => exact (Kd.R_reads' HO199.out).2.1); rintro e w64 ⟨rfl, hb⟩; refine ⟨_, rfl, ?_⟩; have n0_ := Aside0.mk (Kd.R_below (by exact (Kd.R_mono (Kd.R_far (p := ⟨gb213, 0, none⟩) (Kd.R_types HO193.out BK213.out (by decide)) (fun _ hk => hk.2) (.slice Ao42 t209.length co42)) (fun _ h_ => h_.1))) hb); have n1_ := Aside0.mk (Kd.R_below (by exact (Kd.R_mono (Kd.R_far (p := ⟨gb213, 0, none⟩) (Kd.R_types HO196.out BK213.out (by decide)) (fun _ hk => hk.2) (.slice Ao42 t209.length co42)) (fun _ h_ => h_.1))) hb); have n2_ := Aside0.mk (Kd.R_below (by exact (Kd.R_mono (Kd.R_far (p := ⟨gb213, 0, none⟩) (Kd.R_types HO199.out BK213.out (by decide)) (fun _ hk => hk.2) (.slice Ao42 t209.length co42)) (fun _ h_ => h_.1))) hb); have n3_ := Aside0.mk (Kd.R_below (by exact (Kd.R_mono (Kd.R_far (p := ⟨gb213, 0, none⟩) (Kd.R_types HO204.out BK213.out (by decide)) (fun _ hk => hk.2) (.slice Ao42 t209.length co42)) (fun _ h_ => h_.1))) hb); have n4_ := Aside0.mk (Kd.R_below (by exact (Kd.R_mono (Kd.R_far (p := ⟨gb213, 0, none⟩) (Kd.R_types HO208.out BK213.out (by decide)) (fun _ hk => hk.2) (.slice Ao42 t209.length co42)) (fun _ h_ => h_.1))) hb); have n5_ := Aside0.mk (Kd.R_below (by exact (Kd.R_mono (Kd.R_far (p := ⟨gb213, 0, none⟩) (Kd.R_types HO211.out BK213.out (by decide)) (fun _ hk => hk.2) (.slice Ao42 t209.length co42)) (fun _ h_ => h_.1))) hb); have n6_ := Aside0.mk (blk_below (g := gb189) (o := .cells #[.slice A0_0 l0_0.length c0_0] 34 (0, 0)) (by (with_reducible repeat (first | refine blk_drewN ?_ _ | refine blk_drew ?_ | refine blk_alloc ?_ _)); refine blk_far ?_ NB189_213.out _; (with_reducible repeat (first | refine blk_drewN ?_ _ | refine blk_drew ?_ | refine blk_alloc ?_ _)); exact BK189.out) hb); have n7_ := Aside0.mk (blk_below (g := gb201) (o := .cells #[.slice Ao27 t197.length co27] 39 (0, 0)) (by (with_reducible repeat (first | refine blk_drewN ?_ _ | refine blk_drew ?_ | refine blk_alloc ?_ _)); refine blk_far ?_ NB201_213.out _; (with_reducible repeat (first | refine blk_drewN ?_ _ | refine blk_drew ?_ | refine blk_alloc ?_ _)); exact BK201.out) hb); have n8_ := Aside0.mk (blk_below (g := gb205) (o := .cells #[.slice Ao33 t202.length co33] 39 (0, 0)) (by (with_reducible repeat (first | refine blk_drewN ?_ _ | refine blk_drew ?_ | refine blk_alloc ?_ _)); refine blk_far ?_ NB205_213.out _; (with_reducible repeat (first | refine blk_drewN ?_ _ | refine blk_drew ?_ | refine blk_alloc ?_ _)); exact BK205.out) hb); have n9_ := Aside0.mk (blk_below (g := gb213) (o := .cells #[.slice Ao42 t209.length co42] 39 (0, 0)) (by (with_reducible repeat (first | refine blk_drewN ?_ _ | refine blk_drew ?_ | refine blk_alloc ?_ _)); refine blk_put (cs := #[.slice none 0 0]) ?_ 0 _ rfl; (with_reducible repeat (first | refine blk_drewN ?_ _ | refine blk_drew ?_ | refine blk_alloc ?_ _)); exact BK213.out) hb); have n10_ := Aside0.mk (below_step (by repeat (first | (with_reducible first | exact HB.out | apply below_alloc | apply pw_below_drewN | apply below_drew1 | refine below_set ?_ GE189.out | refine below_set ?_ GE201.out | refine below_set ?_ GE205.out | refine below_set ?_ GE213.out) | exact HB.out)) hb); clear HO193; clear HO196; clear HO199; clear HO204; clear HO208; clear HO211; clear BK189; clear BK201; clear BK205; clear BK213; clear HB; have HO193 := n0_; have HO196 := n1_; have HO199 := n2_; have HO204 := n3_; have HO208 := n4_; have HO211 := n5_; have BK189 := n6_; have BK201 := n7_; have BK205 := n8_; have BK213 := n9_; have HB := n10_; clear n0_ n1_ n2_ n3_ n4_ n5_ n6_ n7_ n8_ n9_ n10_; (try clear hb); (try clear hb2); (try clear hk); (try clear hi)))
     go_meet
     case rel => exact ⟨_, (true), (by first | rfl | (simp; done) | (simp [*]; done)), H', ⟨by first | omega | exact Nat.le_refl _⟩, ⟨by exact Kd.R_mono HO208.out (fun _ hk => trivial)⟩, ⟨by exact Kd.R_mono HO199.out (fun _ hk => ⟨hk.1.2, hk.2⟩)⟩, ⟨by exact Kd.R_mono HO204.out (fun _ hk => ⟨hk.1.2, hk.2⟩)⟩, ⟨by exact Kd.R_mono HO211.out (fun _ hk => ⟨hk.1.2, hk.2⟩)⟩, ⟨by (with_reducible repeat (first | refine blk_drewN ?_ _ | refine blk_drew ?_ | refine blk_alloc ?_ _)); exact BK189.out⟩, ⟨by (with_reducible repeat (first | refine blk_drewN ?_ _ | refine blk_drew ?_ | refine blk_alloc ?_ _)); exact BK201.out⟩, ⟨by (with_reducible repeat (first | refine blk_drewN ?_ _ | refine blk_drew ?_ | refine blk_alloc ?_ _)); exact BK205.out⟩, ⟨by (with_reducible repeat (first | refine blk_drewN ?_ _ | refine blk_drew ?_ | refine blk_alloc ?_ _)); exact BK213.out⟩, ⟨by repeat (first | (with_reducible first | exact HB.out | apply below_alloc | apply pw_below_drewN | apply below_drew1 | refine below_set ?_ GE189.out | refine below_set ?_ GE201.out | refine below_set ?_ GE205.out | refine below_set ?_ GE213.out) | exact HB.out)⟩⟩
   case rest =>
    clear HC16
    obtain ⟨kq, x51_15, rfl, HA, HJ15, HO_9, HO_202000, HO_206000, HO_214000, BK189, BK201, BK205, BK213, HB⟩ := hcut
    cases kq with
    | zero => exact absurd HA.out (by simp [laws_FnExactLoseDisk.j0])
    | succ kj15 =>
     have H := HA.out
     clear HA
     simp only [laws_FnExactLoseDisk.j0] at H
     by_cases c65 : x51_15 = true
     ·subst c65
      have H1 : (some false) = some r := by rw [if_pos rfl] at H; exact H
      clear H
      have H := H1
      clear H1
      obtain rfl := Option.some.inj H
      go_wp2
      go_ret
      exact ⟨by first | rfl | (simp [errW_none, errW_some] <;> rfl) | (simp [*, errW_none, errW_some] <;> rfl), by repeat (first | (with_reducible first | exact HB.out | apply below_alloc | apply pw_below_drewN | apply below_drew1 | refine below_set ?_ GE189.out | refine below_set ?_ GE201.out | refine below_set ?_ GE205.out | refine below_set ?_ GE213.out) | exact HB.out)⟩
     ·replace c65 := Bool.eq_false_iff.mpr c65
      subst c65
      have H1 : ((laws_toDisk.f kj15 l0_0).bind fun t215 => ((laws_eqDisk.f kj15 t202 t215).bind fun t218 => (if t218 = true then ((laws_toIntS.f kj15 l1).bind fun t219 => ((laws_eqIntS.f kj15 t206 t219).bind fun t222 => (if t222 = true then ((laws_markDisk.f kj15 t202 1).bind fun bt223 => ((laws_markIntS.f kj15 t206 bt223.1).bind fun bt225 => (if bt225.1 < 0 then (laws_FnExactLoseDisk.j1 kj15 l1 t200 true l0_0 t197 t209) else ((laws_eqDisk.f kj15 t209 t197).bind fun t227 => (if t227 = true then (laws_FnExactLoseDisk.j1 kj15 l1 t200 (t212 != t200) l0_0 t197 t209) else (laws_FnExactLoseDisk.j1 kj15 l1 t200 true l0_0 t197 t209)))))) else (some false)))) else (some false)))) = some r := by rw [if_neg (show ¬ (false = true) by decide)] at H; exact H
      clear H
      have H := H1
      clear H1
      replace H := Option.bind_eq_some_iff.mp H
      obtain ⟨t215, A660, H⟩ := H
      replace H : ((laws_eqDisk.f kj15 t202 t215).bind fun t218 => (if t218 = true then ((laws_toIntS.f kj15 l1).bind fun t219 => ((laws_eqIntS.f kj15 t206 t219).bind fun t222 => (if t222 = true then ((laws_markDisk.f kj15 t202 1).bind fun bt223 => ((laws_markIntS.f kj15 t206 bt223.1).bind fun bt225 => (if bt225.1 < 0 then (laws_FnExactLoseDisk.j1 kj15 l1 t200 true l0_0 t197 t209) else ((laws_eqDisk.f kj15 t209 t197).bind fun t227 => (if t227 = true then (laws_FnExactLoseDisk.j1 kj15 l1 t200 (t212 != t200) l0_0 t197 t209) else (laws_FnExactLoseDisk.j1 kj15 l1 t200 true l0_0 t197 t209)))))) else (some false)))) else (some false))) = some r := H
      have A66 := Aside0.mk A660
      clear A660
      replace H := Option.bind_eq_some_iff.mp H
      obtain ⟨t218, A670, H⟩ := H
      replace H : (if t218 = true then ((laws_toIntS.f kj15 l1).bind fun t219 => ((laws_eqIntS.f kj15 t206 t219).bind fun t222 => (if t222 = true then ((laws_markDisk.f kj15 t202 1).bind fun bt223 => ((laws_markIntS.f kj15 t206 bt223.1).bind fun bt225 => (if bt225.1 < 0 then (laws_FnExactLoseDisk.j1 kj15 l1 t200 true l0_0 t197 t209) else ((laws_eqDisk.f kj15 t209 t197).bind fun t227 => (if t227 = true then (laws_FnExactLoseDisk.j1 kj15 l1 t200 (t212 != t200) l0_0 t197 t209) else (laws_FnExactLoseDisk.j1 kj15 l1 t200 true l0_0 t197 t209)))))) else (some false)))) else (some false)) = some r := H
      have A67 := Aside0.mk A670
      clear A670
      by_cases c68 : t218 = true
      ·subst c68
       have H1 : ((laws_toIntS.f kj15 l1).bind fun t219 => ((laws_eqIntS.f kj15 t206 t219).bind fun t222 => (if t222 = true then ((laws_markDisk.f kj15 t202 1).bind fun bt223 => ((laws_markIntS.f kj15 t206 bt223.1).bind fun bt225 => (if bt225.1 < 0 then (laws_FnExactLoseDisk.j1 kj15 l1 t200 true l0_0 t197 t209) else ((laws_eqDisk.f kj15 t209 t197).bind fun t227 => (if t227 = true then (laws_FnExactLoseDisk.j1 kj15 l1 t200 (t212 != t200) l0_0 t197 t209) else (laws_FnExactLoseDisk.j1 kj15 l1 t200 true l0_0 t197 t209)))))) else (some false)))) = some r := by rw [if_pos rfl] at H; exact H
       clear H
       have H := H1
       clear H1
       replace H := Option.bind_eq_some_iff.mp H
       obtain ⟨t219, A690, H⟩ := H
       replace H : ((laws_eqIntS.f kj15 t206 t219).bind fun t222 => (if t222 = true then ((laws_markDisk.f kj15 t202 1).bind fun bt223 => ((laws_markIntS.f kj15 t206 bt223.1).bind fun bt225 => (if bt225.1 < 0 then (laws_FnExactLoseDisk.j1 kj15 l1 t200 true l0_0 t197 t209) else ((laws_eqDisk.f kj15 t209 t197).bind fun t227 => (if t227 = true then (laws_FnExactLoseDisk.j1 kj15 l1 t200 (t212 != t200) l0_0 t197 t209) else (laws_FnExactLoseDisk.j1 kj15 l1 t200 true l0_0 t197 t209)))))) else (some false))) = some r := H
       have A69 := Aside0.mk A690
       clear A690
       replace H := Option.bind_eq_some_iff.mp H
       obtain ⟨t222, A700, H⟩ := H
       replace H : (if t222 = true then ((laws_markDisk.f kj15 t202 1).bind fun bt223 => ((laws_markIntS.f kj15 t206 bt223.1).bind fun bt225 => (if bt225.1 < 0 then (laws_FnExactLoseDisk.j1 kj15 l1 t200 true l0_0 t197 t209) else ((laws_eqDisk.f kj15 t209 t197).bind fun t227 => (if t227 = true then (laws_FnExactLoseDisk.j1 kj15 l1 t200 (t212 != t200) l0_0 t197 t209) else (laws_FnExactLoseDisk.j1 kj15 l1 t200 true l0_0 t197 t209)))))) else (some false)) = some r := H
       have A70 := Aside0.mk A700
       clear A700
       by_cases c71 : t222 = true
       ·subst c71
        have H1 : ((laws_markDisk.f kj15 t202 1).bind fun bt223 => ((laws_markIntS.f kj15 t206 bt223.1).bind fun bt225 => (if bt225.1 < 0 then (laws_FnExactLoseDisk.j1 kj15 l1 t200 true l0_0 t197 t209) else ((laws_eqDisk.f kj15 t209 t197).bind fun t227 => (if t227 = true then (laws_FnExactLoseDisk.j1 kj15 l1 t200 (t212 != t200) l0_0 t197 t209) else (laws_FnExactLoseDisk.j1 kj15 l1 t200 true l0_0 t197 t209)))))) = some r := by rw [if_pos rfl] at H; exact H
        clear H
        have H := H1
        clear H1
        replace H := Option.bind_eq_some_iff.mp H
        obtain ⟨⟨t223, t224⟩, A720, H⟩ := H
        replace H : ((laws_markIntS.f kj15 t206 t223).bind fun bt225 => (if bt225.1 < 0 then (laws_FnExactLoseDisk.j1 kj15 l1 t200 true l0_0 t197 t209) else ((laws_eqDisk.f kj15 t209 t197).bind fun t227 => (if t227 = true then (laws_FnExactLoseDisk.j1 kj15 l1 t200 (t212 != t200) l0_0 t197 t209) else (laws_FnExactLoseDisk.j1 kj15 l1 t200 true l0_0 t197 t209))))) = some r := H
        have A72 := Aside0.mk A720
        clear A720
        replace H := Option.bind_eq_some_iff.mp H
        obtain ⟨⟨t225, t226⟩, A730, H⟩ := H
        replace H : (if t225 < 0 then (laws_FnExactLoseDisk.j1 kj15 l1 t200 true l0_0 t197 t209) else ((laws_eqDisk.f kj15 t209 t197).bind fun t227 => (if t227 = true then (laws_FnExactLoseDisk.j1 kj15 l1 t200 (t212 != t200) l0_0 t197 t209) else (laws_FnExactLoseDisk.j1 kj15 l1 t200 true l0_0 t197 t209)))) = some r := H
        have A73 := Aside0.mk A730
        clear A730
        have HC74 := Aside0.mk H
        clear H
        try go_wp2
        have n0_ := Aside0.mk (Kd.R_drew HO_9.out)
        have n1_ := Aside0.mk (Kd.R_drew HO_202000.out)
        have n2_ := Aside0.mk (Kd.R_drew HO_206000.out)
        have n3_ := Aside0.mk (Kd.R_drew HO_214000.out)
        have n4_ := Aside0.mk (blk_drew BK189.out)
        have n5_ := Aside0.mk (blk_drew BK201.out)
        have n6_ := Aside0.mk (blk_drew BK205.out)
        have n7_ := Aside0.mk (blk_drew BK213.out)
        have n8_ := Aside0.mk (below_drew1 HB.out)
        clear HO_9
        clear HO_202000
        clear HO_206000
        clear HO_214000
        clear BK189
        clear BK201
        clear BK205
        clear BK213
        clear HB
        have HO_9 := n0_
        have HO_202000 := n1_
        have HO_206000 := n2_
        have HO_214000 := n3_
        have BK189 := n4_
        have BK201 := n5_
        have BK205 := n6_
        have BK213 := n7_
        have HB := n8_
        clear n0_ n1_ n2_ n3_ n4_ n5_ n6_ n7_ n8_
        refine start_ (n := 5) (S := fun w' => w'.cell? ⟨gb205, 0, none⟩ = some (.slice Ao33 t202.length co33) ∧ w'.cell? ⟨gb189, 0, none⟩ = some (.slice A0_0 l0_0.length c0_0)) (ds := []) #[false, false, false, false, false] (by kernel_rfl) rfl rfl ⟨(blk_cell BK205.out 0).trans rfl, (blk_cell BK189.out 0).trans rfl⟩ (fun hHeld => ?_)
        generalize wc.drew = w75 at HO_9 HO_202000 HO_206000 HO_214000 BK189 BK201 BK205 BK213 HB hHeld ⊢
        refine take_ (i := 0) (N := some 52) (v := ?_) (a' := ?_) #[true, false, false, false, false] rfl rfl (by kernel_rfl) (fun _ _ _ h => h) (Or.inl ⟨by rfl, ?_⟩) hHeld ?_ ?_
        rotate_left
        ·rintro w' ⟨s0, s1⟩
         go_simp
         with_reducible rfl
        rotate_left
        ·simp only [Act.put, List.setIfInBounds_toArray, List.set_cons_zero, List.set_cons_succ, i64_w, i32_w]
         rfl
        refine take_ (i := 1) (N := some 53) (v := ?_) (a' := ?_) #[true, true, false, false, false] rfl rfl (by kernel_rfl) (fun _ _ _ h => h) (Or.inl ⟨by rfl, ?_⟩) hHeld ?_ ?_
        rotate_left
        ·rintro w' ⟨s0, s1⟩
         go_simp
         with_reducible rfl
        rotate_left
        ·simp only [Act.put, List.setIfInBounds_toArray, List.set_cons_zero, List.set_cons_succ, i64_w, i32_w]
         rfl
        refine one_ (i := 2) (N := some 54) #[true, true, true, false, false] rfl rfl (by kernel_rfl) (by decide) (fun K hK => ?_)
        refine goes_ Try.func18 (by kernel_rfl) rfl #[.agg #[.slice A0_0 l0_0.length c0_0]] (by rfl) rfl rfl (by (try simp only [List.map_toArray, List.map_cons, List.map_nil]); first | done | rfl) ?_
        with_reducible refine (laws_toDisk.calls kj15 _ _ l0_0 t215 _ ?side1 ?side2 A66.out).mono ?_
        (case side1 => repeat (first | exact (Kd.C_below HR0_0.out HB.out) | (with_reducible refine Kd.C_alloc ?_ _) | (with_reducible refine Kd.C_drewN ?_ _) | (with_reducible refine Kd.C_drew ?_)))
        (case side2 => exact HC0_0.out)
        rintro e w76 ⟨v216, rfl, ho0, hb⟩
        refine ⟨_, rfl, ?_⟩
        have n0_ := Aside0.mk (Kd.R_below (by exact HO_9.out) hb)
        have n1_ := Aside0.mk (Kd.R_elder' (by exact HO_202000.out) (Kd.R_base ho0) hb)
        have n2_ := Aside0.mk (Kd.R_elder' (by exact HO_206000.out) (Kd.R_base ho0) hb)
        have n3_ := Aside0.mk (Kd.R_elder' (by exact HO_214000.out) (Kd.R_base ho0) hb)
        have n4_ := Aside0.mk (Kd.R_lower (Kd.R_new' (Kd.R_new' (Kd.R_new' ho0 (Kd.R_lt (by exact HO_202000.out))) (Kd.R_lt (by exact HO_206000.out))) (Kd.R_lt (by exact HO_214000.out))) (below_size (by repeat (first | (with_reducible first | exact HB.out | apply below_alloc | apply pw_below_drewN | apply below_drew1 | refine below_set ?_ GE189.out | refine below_set ?_ GE201.out | refine below_set ?_ GE205.out | refine below_set ?_ GE213.out) | exact HB.out))))
        have n5_ := Aside0.mk (blk_below (g := gb189) (o := .cells #[.slice A0_0 l0_0.length c0_0] 34 (0, 0)) (by (with_reducible repeat (first | refine blk_drewN ?_ _ | refine blk_drew ?_ | refine blk_alloc ?_ _)); exact BK189.out) hb)
        have n6_ := Aside0.mk (blk_below (g := gb201) (o := .cells #[.slice Ao27 t197.length co27] 39 (0, 0)) (by (with_reducible repeat (first | refine blk_drewN ?_ _ | refine blk_drew ?_ | refine blk_alloc ?_ _)); exact BK201.out) hb)
        have n7_ := Aside0.mk (blk_below (g := gb205) (o := .cells #[.slice Ao33 t202.length co33] 39 (0, 0)) (by (with_reducible repeat (first | refine blk_drewN ?_ _ | refine blk_drew ?_ | refine blk_alloc ?_ _)); exact BK205.out) hb)
        have n8_ := Aside0.mk (blk_below (g := gb213) (o := .cells #[.slice Ao42 t209.length co42] 39 (0, 0)) (by (with_reducible repeat (first | refine blk_drewN ?_ _ | refine blk_drew ?_ | refine blk_alloc ?_ _)); exact BK213.out) hb)
        have n9_ := Aside0.mk (below_step (by repeat (first | (with_reducible first | exact HB.out | apply below_alloc | apply pw_below_drewN | apply below_drew1 | refine below_set ?_ GE189.out | refine below_set ?_ GE201.out | refine below_set ?_ GE205.out | refine below_set ?_ GE213.out) | exact HB.out)) hb)
        clear HO_9
        clear HO_202000
        clear HO_206000
        clear HO_214000
        clear BK189
        clear BK201
        clear BK205
        clear BK213
        clear HB
        have HO_9 := n0_
        have HO_202000 := n1_
        have HO_206000 := n2_
        have HO_214000 := n3_
        have HO217 := n4_
        have BK189 := n5_
        have BK201 := n6_
        have BK205 := n7_
        have BK213 := n8_
        have HB := n9_
        clear n0_ n1_ n2_ n3_ n4_ n5_ n6_ n7_ n8_ n9_
        (try clear hb)
        (try clear hb2)
        (try clear hk)
        (try clear hi)
        (try clear ho0)
        obtain ⟨Ao77, co77, eo77⟩ := Kd.R_slice HO217.out
        (first | subst eo77 | (injection eo77 with f1_ f2_ f3_; have f4_ := f1_.symm; have f5_ := f3_.symm; clear f1_ f2_ f3_; subst f4_; subst f5_))
        refine hK.out _ _ ⟨(blk_cell BK205.out 0).trans rfl, (blk_cell BK189.out 0).trans rfl⟩ (fun hHeld => ?_)
        clear hK K
        refine norm_ (a' := ?_) ?_ ?_
        rotate_left
        ·show Act.put _ (some 54) _ = _
         simp only [Act.put, List.setIfInBounds_toArray, List.set_cons_zero, List.set_cons_succ, i64_w, i32_w]
         rfl
        refine one_ (i := 3) (N := some 55) #[true, true, true, true, false] rfl rfl (by kernel_rfl) (by decide) (fun K hK => ?_)
        refine goes_ Try.func20 (by kernel_rfl) rfl #[.agg #[.slice Ao33 t202.length co33], .agg #[.slice Ao77 t215.length co77]] (by rfl) rfl rfl (by (try simp only [List.map_toArray, List.map_cons, List.map_nil]); first | done | rfl) ?_
        with_reducible refine (laws_eqDisk.calls kj15 _ _ t202 _ _ t215 true _ ?side1 ?side2 ?side3 ?side4 A67.out).mono ?_
        (case side1 => repeat (first | exact (Kd.R_reads' HO_206000.out).2.2 | (with_reducible refine Kd.C_alloc ?_ _) | (with_reducible refine Kd.C_drewN ?_ _) | (with_reducible refine Kd.C_drew ?_)))
        (case side2 => exact (Kd.R_reads' HO_206000.out).2.1)
        (case side3 => repeat (first | exact (Kd.R_reads' HO217.out).2.2 | (with_reducible refine Kd.C_alloc ?_ _) | (with_reducible refine Kd.C_drewN ?_ _) | (with_reducible refine Kd.C_drew ?_)))
        (case side4 => exact (Kd.R_reads' HO217.out).2.1)
        rintro e w78 ⟨rfl, hb⟩
        refine ⟨_, rfl, ?_⟩
        have n0_ := Aside0.mk (Kd.R_below (by exact HO_9.out) hb)
        have n1_ := Aside0.mk (Kd.R_below (by exact HO_202000.out) hb)
        have n2_ := Aside0.mk (Kd.R_below (by exact HO_206000.out) hb)
        have n3_ := Aside0.mk (Kd.R_below (by exact HO_214000.out) hb)
        have n4_ := Aside0.mk (Kd.R_below (by exact HO217.out) hb)
        have n5_ := Aside0.mk (blk_below (g := gb189) (o := .cells #[.slice A0_0 l0_0.length c0_0] 34 (0, 0)) (by (with_reducible repeat (first | refine blk_drewN ?_ _ | refine blk_drew ?_ | refine blk_alloc ?_ _)); exact BK189.out) hb)
        have n6_ := Aside0.mk (blk_below (g := gb201) (o := .cells #[.slice Ao27 t197.length co27] 39 (0, 0)) (by (with_reducible repeat (first | refine blk_drewN ?_ _ | refine blk_drew ?_ | refine blk_alloc ?_ _)); exact BK201.out) hb)
        have n7_ := Aside0.mk (blk_below (g := gb205) (o := .cells #[.slice Ao33 t202.length co33] 39 (0, 0)) (by (with_reducible repeat (first | refine blk_drewN ?_ _ | refine blk_drew ?_ | refine blk_alloc ?_ _)); exact BK205.out) hb)
        have n8_ := Aside0.mk (blk_below (g := gb213) (o := .cells #[.slice Ao42 t209.length co42] 39 (0, 0)) (by (with_reducible repeat (first | refine blk_drewN ?_ _ | refine blk_drew ?_ | refine blk_alloc ?_ _)); exact BK213.out) hb)
        have n9_ := Aside0.mk (below_step (by repeat (first | (with_reducible first | exact HB.out | apply below_alloc | apply pw_below_drewN | apply below_drew1 | refine below_set ?_ GE189.out | refine below_set ?_ GE201.out | refine below_set ?_ GE205.out | refine below_set ?_ GE213.out) | exact HB.out)) hb)
        clear HO_9
        clear HO_202000
        clear HO_206000
        clear HO_214000
        clear HO217
        clear BK189
        clear BK201
        clear BK205
        clear BK213
        clear HB
        have HO_9 := n0_
        have HO_202000 := n1_
        have HO_206000 := n2_
        have HO_214000 := n3_
        have HO217 := n4_
        have BK189 := n5_
        have BK201 := n6_
        have BK205 := n7_
        have BK213 := n8_
        have HB := n9_
        clear n0_ n1_ n2_ n3_ n4_ n5_ n6_ n7_ n8_ n9_
        (try clear hb)
        (try clear hb2)
        (try clear hk)
        (try clear hi)
        refine hK.out _ _ ⟨(blk_cell BK205.out 0).trans rfl, (blk_cell BK189.out 0).trans rfl⟩ (fun hHeld => ?_)
        clear hK K
        refine norm_ (a' := ?_) ?_ ?_
        rotate_left
        ·show Act.put _ (some 55) _ = _
         simp only [Act.put, List.setIfInBounds_toArray, List.set_cons_zero, List.set_cons_succ, i64_w, i32_w]
         rfl
        refine pure_ (i := 4) (N := some 56) (v := ?_) (a' := ?_) #[true, true, true, true, true] rfl rfl (by kernel_rfl) (fun _ _ _ h => h) (Or.inl ⟨by rfl, ?_⟩) ?_ ?_
        rotate_left
        ·intro w'
         go_simp
         with_reducible rfl
        rotate_left
        ·simp only [Act.put, List.setIfInBounds_toArray, List.set_cons_zero, List.set_cons_succ, i64_w, i32_w]
         rfl
        refine done_ (by kernel_rfl) ?_
        go_upto_region 20 with (first | ((with_reducible refine gate_callee (f := 29) rfl ?_); refine goesL_ (some 59) rfl rfl Try.func29 (by kernel_rfl) rfl #[.slice A1 l1.length c1] rfl (by (try simp only [List.map_toArray, List.map_cons, List.map_nil]); first | done | rfl) ?_; (with_reducible refine (laws_toIntS.calls kj15 _ _ l1 t219 _ ?side1 ?side2 A69.out).mono ?_); (case side1 => repeat (first | exact (Kd.C_below HR1.out HB.out) | (with_reducible refine Kd.C_alloc ?_ _) | (with_reducible refine Kd.C_drewN ?_ _) | (with_reducible refine Kd.C_drew ?_))); (case side2 => exact HC1.out); rintro e w79 ⟨v220, rfl, ho0, hb⟩; refine ⟨_, rfl, ?_⟩; have n0_ := Aside0.mk (Kd.R_elder' (by exact HO_9.out) (Kd.R_base ho0) hb); have n1_ := Aside0.mk (Kd.R_below (by exact HO_202000.out) hb); have n2_ := Aside0.mk (Kd.R_below (by exact HO_206000.out) hb); have n3_ := Aside0.mk (Kd.R_below (by exact HO_214000.out) hb); have n4_ := Aside0.mk (Kd.R_below (by exact HO217.out) hb); have n5_ := Aside0.mk (Kd.R_lower (Kd.R_new' ho0 (Kd.R_lt (by exact HO_9.out))) (below_size (by repeat (first | (with_reducible first | exact HB.out | apply below_alloc | apply pw_below_drewN | apply below_drew1 | refine below_set ?_ GE189.out | refine below_set ?_ GE201.out | refine below_set ?_ GE205.out | refine below_set ?_ GE213.out) | exact HB.out)))); have n6_ := Aside0.mk (blk_below (g := gb189) (o := .cells #[.slice A0_0 l0_0.length c0_0] 34 (0, 0)) (by (with_reducible repeat (first | refine blk_drewN ?_ _ | refine blk_drew ?_ | refine blk_alloc ?_ _)); exact BK189.out) hb); have n7_ := Aside0.mk (blk_below (g := gb201) (o := .cells #[.slice Ao27 t197.length co27] 39 (0, 0)) (by (with_reducible repeat (first | refine blk_drewN ?_ _ | refine blk_drew ?_ | refine blk_alloc ?_ _)); exact BK201.out) hb); have n8_ := Aside0.mk (blk_below (g := gb205) (o := .cells #[.slice Ao33 t202.length co33] 39 (0, 0)) (by (with_reducible repeat (first | refine blk_drewN ?_ _ | refine blk_drew ?_ | refine blk_alloc ?_ _)); exact BK205.out) hb); have n9_ := Aside0.mk (blk_below (g := gb213) (o := .cells #[.slice Ao42 t209.length co42] 39 (0, 0)) (by (with_reducible repeat (first | refine blk_drewN ?_ _ | refine blk_drew ?_ | refine blk_alloc ?_ _)); exact BK213.out) hb); have n10_ := Aside0.mk (below_step (by repeat (first | (with_reducible first | exact HB.out | apply below_alloc | apply pw_below_drewN | apply below_drew1 | refine below_set ?_ GE189.out | refine below_set ?_ GE201.out | refine below_set ?_ GE205.out | refine below_set ?_ GE213.out) | exact HB.out)) hb); clear HO_9; clear HO_202000; clear HO_206000; clear HO_214000; clear HO217; clear BK189; clear BK201; clear BK205; clear BK213; clear HB; have HO_9 := n0_; have HO_202000 := n1_; have HO_206000 := n2_; have HO_214000 := n3_; have HO217 := n4_; have HO221 := n5_; have BK189 := n6_; have BK201 := n7_; have BK205 := n8_; have BK213 := n9_; have HB := n10_; clear n0_ n1_ n2_ n3_ n4_ n5_ n6_ n7_ n8_ n9_ n10_; (try clear hb); (try clear ho0); obtain ⟨Ao80, co80, eo80⟩ := Kd.R_slice HO221.out; subst eo80) | ((with_reducible refine gate_callee (f := 31) rfl ?_); refine goesL_ (some 60) rfl rfl Try.func31 (by kernel_rfl) rfl #[.slice Ao39 t206.length co39, .slice Ao80 t219.length co80] rfl (by (try simp only [List.map_toArray, List.map_cons, List.map_nil]); first | done | rfl) ?_; (with_reducible refine (laws_eqIntS.calls kj15 _ _ t206 _ _ t219 true _ ?side1 ?side2 ?side3 ?side4 A70.out).mono ?_); (case side1 => repeat (first | exact (Kd.R_reads' HO_9.out).2.2 | (with_reducible refine Kd.C_alloc ?_ _) | (with_reducible refine Kd.C_drewN ?_ _) | (with_reducible refine Kd.C_drew ?_))); (case side2 => exact (Kd.R_reads' HO_9.out).2.1); (case side3 => repeat (first | exact (Kd.R_reads' HO221.out).2.2 | (with_reducible refine Kd.C_alloc ?_ _) | (with_reducible refine Kd.C_drewN ?_ _) | (with_reducible refine Kd.C_drew ?_))); (case side4 => exact (Kd.R_reads' HO221.out).2.1); rintro e w' ⟨rfl, ⟨nd, rfl⟩⟩; refine ⟨_, rfl, ?_⟩; have hnb81 := NB205_189.out; have hnc81 := NB189_205.out; have hnb82 := NB205_201.out; have hnc82 := NB201_205.out; have hnb83 := NB205_213.out; have hnc83 := NB213_205.out; have hcz84_0 : w79.cell? ⟨gb205, 0, none⟩ = some (.slice Ao33 t202.length co33) := (blk_cell BK205.out 0).trans rfl; have hfz84_0 := blk_frozen BK205.out 0) | ((with_reducible refine gate_callee (f := 32) rfl ?_); refine goesL_ (some 64) rfl rfl Try.func32 (by kernel_rfl) rfl #[.agg #[.slice Ao33 t202.length co33], .int .i64 1] rfl (by (try simp only [List.map_toArray, List.map_cons, List.map_nil]); first | done | rfl) ?_; (with_reducible refine (laws_markDisk.calls kj15 (fun k_ => some k_ = (.slice Ao33 t202.length co33 : Value).ownBlock) (.slice Ao33 t202.length co33) t202 1 t223 t224 w _ ?side1 ?side2 A72.out).mono ?_); (case side1 => repeat (first | (with_reducible first | exact HB.out | apply below_alloc | apply pw_below_drewN | apply below_drew1 | refine below_set ?_ GE189.out | refine below_set ?_ GE201.out | refine below_set ?_ GE205.out | refine below_set ?_ GE213.out) | exact HB.out)); (case side2 => exact Kd.R_tight rfl HO_206000.out); rintro e w85 ⟨rfl, hy0, hb, hkp⟩; refine ⟨_, rfl, ?_⟩; have n0_ := Aside0.mk (Kd.R_mono (ok' := fun k_ => some k_ ≠ (.slice Ao80 t219.length co80 : Value).ownBlock) (Kd.R_keptB ((Kd.R_apart' HO_9.out (Kd.R_typed HO_206000.out) (by decide))) hkp (fun k_ hk_ hs_ => (hk_.2) hs_)) (fun k_ hk_ => hk_.1.1.2)); have n1_ := Aside0.mk (Kd.R_mono (ok' := fun k_ => some k_ ≠ (.slice Ao33 t202.length co33 : Value).ownBlock ∧ some k_ ≠ (.slice Ao42 t209.length co42 : Value).ownBlock ∧ some k_ ≠ (.slice Ao77 t215.length co77 : Value).ownBlock) (Kd.R_keptB (HO_202000.out) hkp (fun k_ hk_ hs_ => (hk_.1.1) hs_)) (fun k_ hk_ => ⟨hk_.1.1.1, hk_.1.1.2, hk_.1.2⟩)); have n2_ := Aside0.mk (Kd.R_reok rfl hy0 (fun k_ e_ => HO_206000.out.1 k_ e_)); have n3_ := Aside0.mk (Kd.R_mono (ok' := fun k_ => some k_ ≠ (.slice Ao27 t197.length co27 : Value).ownBlock ∧ some k_ ≠ (.slice Ao33 t202.length co33 : Value).ownBlock ∧ some k_ ≠ (.slice Ao77 t215.length co77 : Value).ownBlock) (Kd.R_keptB (HO_214000.out) hkp (fun k_ hk_ hs_ => (hk_.1.2) hs_)) (fun k_ hk_ => ⟨hk_.1.1.1, hk_.1.1.2, hk_.1.2⟩)); have n4_ := Aside0.mk (blk_kept (by (with_reducible repeat (first | refine blk_drewN ?_ _ | refine blk_drew ?_ | refine blk_alloc ?_ _)); exact BK189.out) hkp (fun hs_ => (fun e_ => (Kd.R_ne HO_206000.out BK189.out (by decide)) e_) hs_)); have n5_ := Aside0.mk (blk_kept (by (with_reducible repeat (first | refine blk_drewN ?_ _ | refine blk_drew ?_ | refine blk_alloc ?_ _)); exact BK201.out) hkp (fun hs_ => (fun e_ => (Kd.R_ne HO_206000.out BK201.out (by decide)) e_) hs_)); have n6_ := Aside0.mk (blk_kept (by (with_reducible repeat (first | refine blk_drewN ?_ _ | refine blk_drew ?_ | refine blk_alloc ?_ _)); exact BK205.out) hkp (fun hs_ => (fun e_ => (Kd.R_ne HO_206000.out BK205.out (by decide)) e_) hs_)); have n7_ := Aside0.mk (blk_kept (by (with_reducible repeat (first | refine blk_drewN ?_ _ | refine blk_drew ?_ | refine blk_alloc ?_ _)); exact BK213.out) hkp (fun hs_ => (fun e_ => (Kd.R_ne HO_206000.out BK213.out (by decide)) e_) hs_)); have n8_ := Aside0.mk (Kd.R_mono (ok' := fun k_ => some k_ ≠ (.slice Ao27 t197.length co27 : Value).ownBlock ∧ some k_ ≠ (.slice Ao33 t202.length co33 : Value).ownBlock ∧ some k_ ≠ (.slice Ao42 t209.length co42 : Value).ownBlock) (Kd.R_keptB (HO217.out) hkp (fun k_ hk_ hs_ => (hk_.1.2) hs_)) (fun k_ hk_ => ⟨hk_.1.1.1.2, hk_.1.1.2, hk_.1.2⟩)); have n9_ := Aside0.mk (Kd.R_mono (ok' := fun k_ => some k_ ≠ (.slice Ao39 t206.length co39 : Value).ownBlock) (Kd.R_keptB ((Kd.R_apart' HO221.out (Kd.R_typed HO_206000.out) (by decide))) hkp (fun k_ hk_ hs_ => (hk_.2) hs_)) (fun k_ hk_ => hk_.1.1.2)); have n10_ := Aside0.mk (hb); clear HO_9; clear HO_202000; clear HO_206000; clear HO_214000; clear BK189; clear BK201; clear BK205; clear BK213; clear HO217; clear HO221; clear HB; have HO_9 := n0_; have HO_202000 := n1_; have HO_206000 := n2_; have HO_214000 := n3_; have BK189 := n4_; have BK201 := n5_; have BK205 := n6_; have BK213 := n7_; have HO217 := n8_; have HO221 := n9_; have HB := n10_; clear n0_ n1_ n2_ n3_ n4_ n5_ n6_ n7_ n8_ n9_ n10_; (try clear hb); (try clear hkp); (try clear hy0)) | ((with_reducible refine gate_callee (f := 33) rfl ?_); refine goesL_ (some 67) rfl rfl Try.func33 (by kernel_rfl) rfl #[.slice Ao39 t206.length co39, .int .i64 t223] rfl (by (try simp only [List.map_toArray, List.map_cons, List.map_nil]); first | done | rfl) ?_; (with_reducible refine (laws_markIntS.calls kj15 (fun k_ => some k_ = (.slice Ao39 t206.length co39 : Value).ownBlock) (.slice Ao39 t206.length co39) t206 t223 t225 t226 w _ ?side1 ?side2 A73.out).mono ?_); (case side1 => repeat (first | (with_reducible first | exact HB.out | apply below_alloc | apply pw_below_drewN | apply below_drew1 | refine below_set ?_ GE189.out | refine below_set ?_ GE201.out | refine below_set ?_ GE205.out | refine below_set ?_ GE213.out) | exact HB.out)); (case side2 => exact Kd.R_tight rfl HO_9.out); rintro e w86 ⟨rfl, hy0, hb, hkp⟩; refine ⟨_, rfl, ?_⟩; have n0_ := Aside0.mk (Kd.R_reok rfl hy0 (fun k_ e_ => HO_9.out.1 k_ e_)); have n1_ := Aside0.mk (Kd.R_mono (ok' := fun k_ => some k_ ≠ (.slice Ao33 t202.length co33 : Value).ownBlock ∧ some k_ ≠ (.slice Ao42 t209.length co42 : Value).ownBlock ∧ some k_ ≠ (.slice Ao77 t215.length co77 : Value).ownBlock) (Kd.R_keptB ((Kd.R_apart' HO_202000.out (Kd.R_typed HO_9.out) (by decide))) hkp (fun k_ hk_ hs_ => (hk_.2) hs_)) (fun k_ hk_ => ⟨hk_.1.1.1, hk_.1.1.2.1, hk_.1.1.2.2⟩)); have n2_ := Aside0.mk (Kd.R_mono (ok' := fun k_ => some k_ ≠ (.slice Ao27 t197.length co27 : Value).ownBlock ∧ some k_ ≠ (.slice Ao42 t209.length co42 : Value).ownBlock ∧ some k_ ≠ (.slice Ao77 t215.length co77 : Value).ownBlock) (Kd.R_keptB ((Kd.R_apart' HO_206000.out (Kd.R_typed HO_9.out) (by decide))) hkp (fun k_ hk_ hs_ => (hk_.2) hs_)) (fun k_ hk_ => ⟨hk_.1.1.1.1, hk_.1.1.1.2, hk_.1.1.2⟩)); have n3_ := Aside0.mk (Kd.R_mono (ok' := fun k_ => some k_ ≠ (.slice Ao27 t197.length co27 : Value).ownBlock ∧ some k_ ≠ (.slice Ao33 t202.length co33 : Value).ownBlock ∧ some k_ ≠ (.slice Ao77 t215.length co77 : Value).ownBlock) (Kd.R_keptB ((Kd.R_apart' HO_214000.out (Kd.R_typed HO_9.out) (by decide))) hkp (fun k_ hk_ hs_ => (hk_.2) hs_)) (fun k_ hk_ => ⟨hk_.1.1.1, hk_.1.1.2.1, hk_.1.1.2.2⟩)); have n4_ := Aside0.mk (blk_kept (by (with_reducible repeat (first | refine blk_drewN ?_ _ | refine blk_drew ?_ | refine blk_alloc ?_ _)); exact BK189.out) hkp (fun hs_ => (fun e_ => (Kd.R_ne HO_9.out BK189.out (by decide)) e_) hs_)); have n5_ := Aside0.mk (blk_kept (by (with_reducible repeat (first | refine blk_drewN ?_ _ | refine blk_drew ?_ | refine blk_alloc ?_ _)); exact BK201.out) hkp (fun hs_ => (fun e_ => (Kd.R_ne HO_9.out BK201.out (by decide)) e_) hs_)); have n6_ := Aside0.mk (blk_kept (by (with_reducible repeat (first | refine blk_drewN ?_ _ | refine blk_drew ?_ | refine blk_alloc ?_ _)); exact BK205.out) hkp (fun hs_ => (fun e_ => (Kd.R_ne HO_9.out BK205.out (by decide)) e_) hs_)); have n7_ := Aside0.mk (blk_kept (by (with_reducible repeat (first | refine blk_drewN ?_ _ | refine blk_drew ?_ | refine blk_alloc ?_ _)); exact BK213.out) hkp (fun hs_ => (fun e_ => (Kd.R_ne HO_9.out BK213.out (by decide)) e_) hs_)); have n8_ := Aside0.mk (Kd.R_mono (ok' := fun k_ => some k_ ≠ (.slice Ao27 t197.length co27 : Value).ownBlock ∧ some k_ ≠ (.slice Ao33 t202.length co33 : Value).ownBlock ∧ some k_ ≠ (.slice Ao42 t209.length co42 : Value).ownBlock) (Kd.R_keptB ((Kd.R_apart' HO217.out (Kd.R_typed HO_9.out) (by decide))) hkp (fun k_ hk_ hs_ => (hk_.2) hs_)) (fun k_ hk_ => ⟨hk_.1.1.1, hk_.1.1.2.1, hk_.1.1.2.2⟩)); have n9_ := Aside0.mk (Kd.R_mono (ok' := fun k_ => some k_ ≠ (.slice Ao39 t206.length co39 : Value).ownBlock) (Kd.R_keptB (HO221.out) hkp (fun k_ hk_ hs_ => (hk_) hs_)) (fun k_ hk_ => hk_.1)); have n10_ := Aside0.mk (hb); clear HO_9; clear HO_202000; clear HO_206000; clear HO_214000; clear BK189; clear BK201; clear BK205; clear BK213; clear HO217; clear HO221; clear HB; have HO_9 := n0_; have HO_202000 := n1_; have HO_206000 := n2_; have HO_214000 := n3_; have BK189 := n4_; have BK201 := n5_; have BK205 := n6_; have BK213 := n7_; have HO217 := n8_; have HO221 := n9_; have HB := n10_; clear n0_ n1_ n2_ n3_ n4_ n5_ n6_ n7_ n8_ n9_ n10_; (try clear hb); (try clear hkp); (try clear hy0)))
        (try simp only [Act.put, List.setIfInBounds_toArray, List.set_cons_zero, List.set_cons_succ])
        go_cut [80] (fun v80 wc => ∃ (kq : Nat) (x80_73 : Bool), v80 = .bool x80_73 ∧ Aside0 (laws_FnExactLoseDisk.j1 kq l1 t200 x80_73 l0_0 t197 t209 = some r) ∧ Aside0 (kq ≤ kj15) ∧ Aside0 (Kd.R k57 57 wc w.heap.size (fun k_ => some k_ ≠ ((.slice Ao33 t202.length co33) : Value).ownBlock ∧ some k_ ≠ ((.slice Ao42 t209.length co42) : Value).ownBlock) (.slice Ao27 t197.length co27) t197) ∧ Aside0 (Kd.R k57 57 wc w.heap.size (fun k_ => some k_ ≠ ((.slice Ao27 t197.length co27) : Value).ownBlock ∧ some k_ ≠ ((.slice Ao42 t209.length co42) : Value).ownBlock) (.slice Ao33 t202.length co33) t224) ∧ Aside0 (Kd.R k57 57 wc w.heap.size (fun k_ => some k_ ≠ ((.slice Ao27 t197.length co27) : Value).ownBlock ∧ some k_ ≠ ((.slice Ao33 t202.length co33) : Value).ownBlock) (.slice Ao42 t209.length co42) t209) ∧ Aside0 (wc.heap[gb189]? = some (.cells #[(.slice A0_0 l0_0.length c0_0)] 34 (0, 0))) ∧ Aside0 (wc.heap[gb201]? = some (.cells #[(.slice Ao27 t197.length co27)] 39 (0, 0))) ∧ Aside0 (wc.heap[gb205]? = some (.cells #[(.slice Ao33 t202.length co33)] 39 (0, 0))) ∧ Aside0 (wc.heap[gb213]? = some (.cells #[(.slice Ao42 t209.length co42)] 39 (0, 0))) ∧ Aside0 (Below w.heap.size w wc))
        case first =>
         have H := HC74.out
         clear HC74
         by_cases c87 : t225 < 0
         ·rw [if_pos c87] at H
          have c87b0 : decide (t225 < 0) = true := decide_eq_true c87
          clear c87
          (first | rw [c87b0] | (simp only [i64_w, i32_w]; rw [c87b0]) | rw [c87b1] | skip)
          have H' := Aside0.mk H
          clear H
          go_wp2
          go_meet
          case rel => exact ⟨_, (true), (by first | rfl | (simp; done) | (simp [*]; done)), H', ⟨by have := HJ15.out; first | omega | exact Nat.le_refl _⟩, ⟨by exact Kd.R_mono HO_202000.out (fun _ hk => ⟨hk.1, hk.2.1⟩)⟩, ⟨by exact Kd.R_mono HO_206000.out (fun _ hk => ⟨hk.1, hk.2.1⟩)⟩, ⟨by exact Kd.R_mono HO_214000.out (fun _ hk => ⟨hk.1, hk.2.1⟩)⟩, ⟨by (with_reducible repeat (first | refine blk_drewN ?_ _ | refine blk_drew ?_ | refine blk_alloc ?_ _)); exact BK189.out⟩, ⟨by (with_reducible repeat (first | refine blk_drewN ?_ _ | refine blk_drew ?_ | refine blk_alloc ?_ _)); exact BK201.out⟩, ⟨by (with_reducible repeat (first | refine blk_drewN ?_ _ | refine blk_drew ?_ | refine blk_alloc ?_ _)); exact BK205.out⟩, ⟨by (with_reducible repeat (first | refine blk_drewN ?_ _ | refine blk_drew ?_ | refine blk_alloc ?_ _)); exact BK213.out⟩, ⟨by repeat (first | (with_reducible first | exact HB.out | apply below_alloc | apply pw_below_drewN | apply below_drew1 | refine below_set ?_ GE189.out | refine below_set ?_ GE201.out | refine below_set ?_ GE205.out | refine below_set ?_ GE213.out) | exact HB.out)⟩⟩
         ·rw [if_neg c87] at H
          have c87b0 : decide (t225 < 0) = false := decide_eq_false c87
          clear c87
          (first | rw [c87b0] | (simp only [i64_w, i32_w]; rw [c87b0]) | rw [c87b1] | skip)
          replace H := Option.bind_eq_some_iff.mp H
          obtain ⟨t227, A880, H⟩ := H
          replace H : (if t227 = true then (laws_FnExactLoseDisk.j1 kj15 l1 t200 (t212 != t200) l0_0 t197 t209) else (laws_FnExactLoseDisk.j1 kj15 l1 t200 true l0_0 t197 t209)) = some r := H
          have A88 := Aside0.mk A880
          clear A880
          by_cases c89 : t227 = true
          ·subst c89
           have H1 : (laws_FnExactLoseDisk.j1 kj15 l1 t200 (t212 != t200) l0_0 t197 t209) = some r := by rw [if_pos rfl] at H; exact H
           clear H
           have H := H1
           clear H1
           have H' := Aside0.mk H
           clear H
           have hnb90 := NB213_189.out
           have hnc90 := NB189_213.out
           have hnb91 := NB213_201.out
           have hnc91 := NB201_213.out
           have hnb92 := NB213_205.out
           have hnc92 := NB205_213.out
           have hcz93_0 : w86.cell? ⟨gb213, 0, none⟩ = some (.slice Ao42 t209.length co42) := (blk_cell BK213.out 0).trans rfl
           have hfz93_0 := blk_frozen BK213.out 0
           have hnb94 := NB201_189.out
           have hnc94 := NB189_201.out
           have hnb95 := NB201_205.out
           have hnc95 := NB205_201.out
           have hcz96_0 : w86.cell? ⟨gb201, 0, none⟩ = some (.slice Ao27 t197.length co27) := (blk_cell BK201.out 0).trans rfl
           have hfz96_0 := blk_frozen BK201.out 0
           go_wp2_with (first | (go_at_call 20; (with_reducible refine (laws_eqDisk.calls kj15 _ _ t209 _ _ t197 true _ ?side1 ?side2 ?side3 ?side4 A88.out).mono ?_); (case side1 => repeat (first | exact (Kd.R_reads' HO_214000.out).2.2 | (with_reducible refine Kd.C_alloc ?_ _) | (with_reducible refine Kd.C_drewN ?_ _) | (with_reducible refine Kd.C_drew ?_))); (case side2 => exact (Kd.R_reads' HO_214000.out).2.1); (case side3 => repeat (first | exact (Kd.R_reads' HO_202000.out).2.2 | (with_reducible refine Kd.C_alloc ?_ _) | (with_reducible refine Kd.C_drewN ?_ _) | (with_reducible refine Kd.C_drew ?_))); (case side4 => exact (Kd.R_reads' HO_202000.out).2.1); rintro e w97 ⟨rfl, hb⟩; have n0_ := Aside0.mk (Kd.R_below (by exact HO_9.out) hb); have n1_ := Aside0.mk (Kd.R_below (by exact HO_202000.out) hb); have n2_ := Aside0.mk (Kd.R_below (by exact HO_206000.out) hb); have n3_ := Aside0.mk (Kd.R_below (by exact HO_214000.out) hb); have n4_ := Aside0.mk (Kd.R_below (by exact HO217.out) hb); have n5_ := Aside0.mk (Kd.R_below (by exact HO221.out) hb); have n6_ := Aside0.mk (blk_below (g := gb189) (o := .cells #[.slice A0_0 l0_0.length c0_0] 34 (0, 0)) (by (with_reducible repeat (first | refine blk_drewN ?_ _ | refine blk_drew ?_ | refine blk_alloc ?_ _)); exact BK189.out) hb); have n7_ := Aside0.mk (blk_below (g := gb201) (o := .cells #[.slice Ao27 t197.length co27] 39 (0, 0)) (by (with_reducible repeat (first | refine blk_drewN ?_ _ | refine blk_drew ?_ | refine blk_alloc ?_ _)); exact BK201.out) hb); have n8_ := Aside0.mk (blk_below (g := gb205) (o := .cells #[.slice Ao33 t202.length co33] 39 (0, 0)) (by (with_reducible repeat (first | refine blk_drewN ?_ _ | refine blk_drew ?_ | refine blk_alloc ?_ _)); exact BK205.out) hb); have n9_ := Aside0.mk (blk_below (g := gb213) (o := .cells #[.slice Ao42 t209.length co42] 39 (0, 0)) (by (with_reducible repeat (first | refine blk_drewN ?_ _ | refine blk_drew ?_ | refine blk_alloc ?_ _)); exact BK213.out) hb); have n10_ := Aside0.mk (below_step (by repeat (first | (with_reducible first | exact HB.out | apply below_alloc | apply pw_below_drewN | apply below_drew1 | refine below_set ?_ GE189.out | refine below_set ?_ GE201.out | refine below_set ?_ GE205.out | refine below_set ?_ GE213.out) | exact HB.out)) hb); clear HO_9; clear HO_202000; clear HO_206000; clear HO_214000; clear HO217; clear HO221; clear BK189; clear BK201; clear BK205; clear BK213; clear HB; have HO_9 := n0_; have HO_202000 := n1_; have HO_206000 := n2_; have HO_214000 := n3_; have HO217 := n4_; have HO221 := n5_; have BK189 := n6_; have BK201 := n7_; have BK205 := n8_; have BK213 := n9_; have HB := n10_; clear n0_ n1_ n2_ n3_ n4_ n5_ n6_ n7_ n8_ n9_ n10_; (try clear hb); (try clear hk)))
           go_meet
           case rel => exact ⟨_, ((t212 != t200)), (by first | rfl | (simp; done) | (simp [*]; done)), H', ⟨by have := HJ15.out; first | omega | exact Nat.le_refl _⟩, ⟨by exact Kd.R_mono HO_202000.out (fun _ hk => ⟨hk.1, hk.2.1⟩)⟩, ⟨by exact Kd.R_mono HO_206000.out (fun _ hk => ⟨hk.1, hk.2.1⟩)⟩, ⟨by exact Kd.R_mono HO_214000.out (fun _ hk => ⟨hk.1, hk.2.1⟩)⟩, ⟨by (with_reducible repeat (first | refine blk_drewN ?_ _ | refine blk_drew ?_ | refine blk_alloc ?_ _)); exact BK189.out⟩, ⟨by (with_reducible repeat (first | refine blk_drewN ?_ _ | refine blk_drew ?_ | refine blk_alloc ?_ _)); exact BK201.out⟩, ⟨by (with_reducible repeat (first | refine blk_drewN ?_ _ | refine blk_drew ?_ | refine blk_alloc ?_ _)); exact BK205.out⟩, ⟨by (with_reducible repeat (first | refine blk_drewN ?_ _ | refine blk_drew ?_ | refine blk_alloc ?_ _)); exact BK213.out⟩, ⟨by repeat (first | (with_reducible first | exact HB.out | apply below_alloc | apply pw_below_drewN | apply below_drew1 | refine below_set ?_ GE189.out | refine below_set ?_ GE201.out | refine below_set ?_ GE205.out | refine below_set ?_ GE213.out) | exact HB.out)⟩⟩
          ·replace c89 := Bool.eq_false_iff.mpr c89
           subst c89
           have H1 : (laws_FnExactLoseDisk.j1 kj15 l1 t200 true l0_0 t197 t209) = some r := by rw [if_neg (show ¬ (false = true) by decide)] at H; exact H
           clear H
           have H := H1
           clear H1
           have H' := Aside0.mk H
           clear H
           have hnb98 := NB213_189.out
           have hnc98 := NB189_213.out
           have hnb99 := NB213_201.out
           have hnc99 := NB201_213.out
           have hnb100 := NB213_205.out
           have hnc100 := NB205_213.out
           have hcz101_0 : w86.cell? ⟨gb213, 0, none⟩ = some (.slice Ao42 t209.length co42) := (blk_cell BK213.out 0).trans rfl
           have hfz101_0 := blk_frozen BK213.out 0
           have hnb102 := NB201_189.out
           have hnc102 := NB189_201.out
           have hnb103 := NB201_205.out
           have hnc103 := NB205_201.out
           have hcz104_0 : w86.cell? ⟨gb201, 0, none⟩ = some (.slice Ao27 t197.length co27) := (blk_cell BK201.out 0).trans rfl
           have hfz104_0 := blk_frozen BK201.out 0
           go_wp2_with (first | (go_at_call 20; (with_reducible refine (laws_eqDisk.calls kj15 _ _ t209 _ _ t197 false _ ?side1 ?side2 ?side3 ?side4 A88.out).mono ?_); (case side1 => repeat (first | exact (Kd.R_reads' HO_214000.out).2.2 | (with_reducible refine Kd.C_alloc ?_ _) | (with_reducible refine Kd.C_drewN ?_ _) | (with_reducible refine Kd.C_drew ?_))); (case side2 => exact (Kd.R_reads' HO_214000.out).2.1); (case side3 => repeat (first | exact (Kd.R_reads' HO_202000.out).2.2 | (with_reducible refine Kd.C_alloc ?_ _) | (with_reducible refine Kd.C_drewN ?_ _) | (with_reducible refine Kd.C_drew ?_))); (case side4 => exact (Kd.R_reads' HO_202000.out).2.1); rintro e w105 ⟨rfl, hb⟩; have n0_ := Aside0.mk (Kd.R_below (by exact HO_9.out) hb); have n1_ := Aside0.mk (Kd.R_below (by exact HO_202000.out) hb); have n2_ := Aside0.mk (Kd.R_below (by exact HO_206000.out) hb); have n3_ := Aside0.mk (Kd.R_below (by exact HO_214000.out) hb); have n4_ := Aside0.mk (Kd.R_below (by exact HO217.out) hb); have n5_ := Aside0.mk (Kd.R_below (by exact HO221.out) hb); have n6_ := Aside0.mk (blk_below (g := gb189) (o := .cells #[.slice A0_0 l0_0.length c0_0] 34 (0, 0)) (by (with_reducible repeat (first | refine blk_drewN ?_ _ | refine blk_drew ?_ | refine blk_alloc ?_ _)); exact BK189.out) hb); have n7_ := Aside0.mk (blk_below (g := gb201) (o := .cells #[.slice Ao27 t197.length co27] 39 (0, 0)) (by (with_reducible repeat (first | refine blk_drewN ?_ _ | refine blk_drew ?_ | refine blk_alloc ?_ _)); exact BK201.out) hb); have n8_ := Aside0.mk (blk_below (g := gb205) (o := .cells #[.slice Ao33 t202.length co33] 39 (0, 0)) (by (with_reducible repeat (first | refine blk_drewN ?_ _ | refine blk_drew ?_ | refine blk_alloc ?_ _)); exact BK205.out) hb); have n9_ := Aside0.mk (blk_below (g := gb213) (o := .cells #[.slice Ao42 t209.length co42] 39 (0, 0)) (by (with_reducible repeat (first | refine blk_drewN ?_ _ | refine blk_drew ?_ | refine blk_alloc ?_ _)); exact BK213.out) hb); have n10_ := Aside0.mk (below_step (by repeat (first | (with_reducible first | exact HB.out | apply below_alloc | apply pw_below_drewN | apply below_drew1 | refine below_set ?_ GE189.out | refine below_set ?_ GE201.out | refine below_set ?_ GE205.out | refine below_set ?_ GE213.out) | exact HB.out)) hb); clear HO_9; clear HO_202000; clear HO_206000; clear HO_214000; clear HO217; clear HO221; clear BK189; clear BK201; clear BK205; clear BK213; clear HB; have HO_9 := n0_; have HO_202000 := n1_; have HO_206000 := n2_; have HO_214000 := n3_; have HO217 := n4_; have HO221 := n5_; have BK189 := n6_; have BK201 := n7_; have BK205 := n8_; have BK213 := n9_; have HB := n10_; clear n0_ n1_ n2_ n3_ n4_ n5_ n6_ n7_ n8_ n9_ n10_; (try clear hb); (try clear hk)))
           go_meet
           case rel => exact ⟨_, (true), (by first | rfl | (simp; done) | (simp [*]; done)), H', ⟨by have := HJ15.out; first | omega | exact Nat.le_refl _⟩, ⟨by exact Kd.R_mono HO_202000.out (fun _ hk => ⟨hk.1, hk.2.1⟩)⟩, ⟨by exact Kd.R_mono HO_206000.out (fun _ hk => ⟨hk.1, hk.2.1⟩)⟩, ⟨by exact Kd.R_mono HO_214000.out (fun _ hk => ⟨hk.1, hk.2.1⟩)⟩, ⟨by (with_reducible repeat (first | refine blk_drewN ?_ _ | refine blk_drew ?_ | refine blk_alloc ?_ _)); exact BK189.out⟩, ⟨by (with_reducible repeat (first | refine blk_drewN ?_ _ | refine blk_drew ?_ | refine blk_alloc ?_ _)); exact BK201.out⟩, ⟨by (with_reducible repeat (first | refine blk_drewN ?_ _ | refine blk_drew ?_ | refine blk_alloc ?_ _)); exact BK205.out⟩, ⟨by (with_reducible repeat (first | refine blk_drewN ?_ _ | refine blk_drew ?_ | refine blk_alloc ?_ _)); exact BK213.out⟩, ⟨by repeat (first | (with_reducible first | exact HB.out | apply below_alloc | apply pw_below_drewN | apply below_drew1 | refine below_set ?_ GE189.out | refine below_set ?_ GE201.out | refine below_set ?_ GE205.out | refine below_set ?_ GE213.out) | exact HB.out)⟩⟩
        case rest =>
         clear HC74
         obtain ⟨kq, x80_73, rfl, HA, HJ73, HO_202000, HO_206000, HO_214000, BK189, BK201, BK205, BK213, HB⟩ := hcut
         have hl206000_73 := (Kd.R_reads' HO_206000.out).1
         rw [hl206000_73] at HO_206000
         (try simp only [hl206000_73])
         (try simp only [hl206000_73] at BK189)
         (try simp only [hl206000_73] at BK201)
         (try simp only [hl206000_73] at BK205)
         (try simp only [hl206000_73] at BK213)
         (try simp only [hl206000_73] at HO_202000)
         (try simp only [hl206000_73] at HO_214000)
         cases kq with
         | zero => exact absurd HA.out (by simp [laws_FnExactLoseDisk.j1])
         | succ kj73 =>
          have H := HA.out
          clear HA
          simp only [laws_FnExactLoseDisk.j1] at H
          by_cases c106 : x80_73 = true
          ·subst c106
           have H1 : (some false) = some r := by rw [if_pos rfl] at H; exact H
           clear H
           have H := H1
           clear H1
           obtain rfl := Option.some.inj H
           go_wp2
           go_ret
           exact ⟨by first | rfl | (simp [errW_none, errW_some] <;> rfl) | (simp [*, errW_none, errW_some] <;> rfl), by repeat (first | (with_reducible first | exact HB.out | apply below_alloc | apply pw_below_drewN | apply below_drew1 | refine below_set ?_ GE189.out | refine below_set ?_ GE201.out | refine below_set ?_ GE205.out | refine below_set ?_ GE213.out) | exact HB.out)⟩
          ·replace c106 := Bool.eq_false_iff.mpr c106
           subst c106
           have H1 : ((laws_markDisk.f kj73 t209 1).bind fun bt228 => ((laws_heldDisk.f kj73 bt228.2 1).bind fun t230 => (if t230 < 0 then (some false) else (if t230 = bt228.1 then ((laws_toDisk.f kj73 l0_0).bind fun t231 => ((laws_toIntS.f kj73 l1).bind fun t234 => ((impl_LoseDisk.f kj73 t231 t234).bind fun bt237 => ((laws_eqDisk.f kj73 bt237.1 t197).bind fun t242 => (if t242 = true then (laws_FnExactLoseDisk.j2 kj73 bt228.1 (bt237.2 != t200) bt228.2) else (laws_FnExactLoseDisk.j2 kj73 bt228.1 true bt228.2)))))) else (some false))))) = some r := by rw [if_neg (show ¬ (false = true) by decide)] at H; exact H
           clear H
           have H := H1
           clear H1
           replace H := Option.bind_eq_some_iff.mp H
           obtain ⟨⟨t228, t229⟩, A1070, H⟩ := H
           replace H : ((laws_heldDisk.f kj73 t229 1).bind fun t230 => (if t230 < 0 then (some false) else (if t230 = t228 then ((laws_toDisk.f kj73 l0_0).bind fun t231 => ((laws_toIntS.f kj73 l1).bind fun t234 => ((impl_LoseDisk.f kj73 t231 t234).bind fun bt237 => ((laws_eqDisk.f kj73 bt237.1 t197).bind fun t242 => (if t242 = true then (laws_FnExactLoseDisk.j2 kj73 t228 (bt237.2 != t200) t229) else (laws_FnExactLoseDisk.j2 kj73 t228 true t229)))))) else (some false)))) = some r := H
           have A107 := Aside0.mk A1070
           clear A1070
           replace H := Option.bind_eq_some_iff.mp H
           obtain ⟨t230, A1080, H⟩ := H
           replace H : (if t230 < 0 then (some false) else (if t230 = t228 then ((laws_toDisk.f kj73 l0_0).bind fun t231 => ((laws_toIntS.f kj73 l1).bind fun t234 => ((impl_LoseDisk.f kj73 t231 t234).bind fun bt237 => ((laws_eqDisk.f kj73 bt237.1 t197).bind fun t242 => (if t242 = true then (laws_FnExactLoseDisk.j2 kj73 t228 (bt237.2 != t200) t229) else (laws_FnExactLoseDisk.j2 kj73 t228 true t229)))))) else (some false))) = some r := H
           have A108 := Aside0.mk A1080
           clear A1080
           by_cases c109 : t230 < 0
           ·rw [if_pos c109] at H
            have c109b0 : decide (t230 < 0) = true := decide_eq_true c109
            clear c109
            obtain rfl := Option.some.inj H
            have hnb110 := NB213_189.out
            have hnc110 := NB189_213.out
            have hnb111 := NB213_201.out
            have hnc111 := NB201_213.out
            have hnb112 := NB213_205.out
            have hnc112 := NB205_213.out
            have hcz113_0 : wc.cell? ⟨gb213, 0, none⟩ = some (.slice Ao42 t209.length co42) := (blk_cell BK213.out 0).trans rfl
            have hfz113_0 := blk_frozen BK213.out 0
            go_wp2_with (first | ((with_reducible refine gate_callee (f := 32) rfl ?_); refine goesL_ (some 83) rfl rfl Try.func32 (by kernel_rfl) rfl #[.agg #[.slice Ao42 t209.length co42], .int .i64 1] rfl (by (try simp only [List.map_toArray, List.map_cons, List.map_nil]); first | done | rfl) ?_; (with_reducible refine (laws_markDisk.calls kj73 (fun k_ => some k_ = (.slice Ao42 t209.length co42 : Value).ownBlock) (.slice Ao42 t209.length co42) t209 1 t228 t229 w _ ?side1 ?side2 A107.out).mono ?_); (case side1 => repeat (first | (with_reducible first | exact HB.out | apply below_alloc | apply pw_below_drewN | apply below_drew1 | refine below_set ?_ GE189.out | refine below_set ?_ GE201.out | refine below_set ?_ GE205.out | refine below_set ?_ GE213.out) | exact HB.out)); (case side2 => exact Kd.R_tight rfl HO_214000.out); rintro e w114 ⟨rfl, hy0, hb, hkp⟩; refine ⟨_, rfl, ?_⟩; have n0_ := Aside0.mk (Kd.R_mono (ok' := fun k_ => some k_ ≠ (.slice Ao33 t224.length co33 : Value).ownBlock ∧ some k_ ≠ (.slice Ao42 t209.length co42 : Value).ownBlock) (Kd.R_keptB (HO_202000.out) hkp (fun k_ hk_ hs_ => (hk_.2) hs_)) (fun k_ hk_ => ⟨hk_.1.1, hk_.1.2⟩)); have n1_ := Aside0.mk (Kd.R_mono (ok' := fun k_ => some k_ ≠ (.slice Ao27 t197.length co27 : Value).ownBlock ∧ some k_ ≠ (.slice Ao42 t209.length co42 : Value).ownBlock) (Kd.R_keptB (HO_206000.out) hkp (fun k_ hk_ hs_ => (hk_.2) hs_)) (fun k_ hk_ => ⟨hk_.1.1, hk_.1.2⟩)); have n2_ := Aside0.mk (Kd.R_reok rfl hy0 (fun k_ e_ => HO_214000.out.1 k_ e_)); have n3_ := Aside0.mk (blk_kept (by (with_reducible repeat (first | refine blk_drewN ?_ _ | refine blk_drew ?_ | refine blk_alloc ?_ _)); exact BK189.out) hkp (fun hs_ => (fun e_ => (Kd.R_ne HO_214000.out BK189.out (by decide)) e_) hs_)); have n4_ := Aside0.mk (blk_kept (by (with_reducible repeat (first | refine blk_drewN ?_ _ | refine blk_drew ?_ | refine blk_alloc ?_ _)); exact BK201.out) hkp (fun hs_ => (fun e_ => (Kd.R_ne HO_214000.out BK201.out (by decide)) e_) hs_)); have n5_ := Aside0.mk (blk_kept (by (with_reducible repeat (first | refine blk_drewN ?_ _ | refine blk_drew ?_ | refine blk_alloc ?_ _)); exact BK205.out) hkp (fun hs_ => (fun e_ => (Kd.R_ne HO_214000.out BK205.out (by decide)) e_) hs_)); have n6_ := Aside0.mk (blk_kept (by (with_reducible repeat (first | refine blk_drewN ?_ _ | refine blk_drew ?_ | refine blk_alloc ?_ _)); exact BK213.out) hkp (fun hs_ => (fun e_ => (Kd.R_ne HO_214000.out BK213.out (by decide)) e_) hs_)); have n7_ := Aside0.mk (hb); clear HO_202000; clear HO_206000; clear HO_214000; clear BK189; clear BK201; clear BK205; clear BK213; clear HB; have HO_202000 := n0_; have HO_206000 := n1_; have HO_214000 := n2_; have BK189 := n3_; have BK201 := n4_; have BK205 := n5_; have BK213 := n6_; have HB := n7_; clear n0_ n1_ n2_ n3_ n4_ n5_ n6_ n7_; (try clear hb); (try clear hkp); (try clear hy0); have hcz115_0 : w114.cell? ⟨gb213, 0, none⟩ = some (.slice Ao42 t209.length co42) := (blk_cell BK213.out 0).trans rfl; have hfz115_0 := blk_frozen BK213.out 0) | ((with_reducible refine gate_callee (f := 34) rfl ?_); refine goesL_ (some 86) rfl rfl Try.func34 (by kernel_rfl) rfl #[.agg #[.slice Ao42 t229.length co42], .int .i64 1] rfl (by (try simp only [List.map_toArray, List.map_cons, List.map_nil]); first | done | (rw [show t229.length = t209.length from (Kd.R_reads' HO_214000.out).1.symm] <;> rfl) | rfl | (simp only [List.length_drop, List.length_take]; rfl)) ?_; (with_reducible refine (laws_heldDisk.calls kj73 _ _ t229 1 t230 _ ?side1 ?side2 A108.out).mono ?_); (case side1 => repeat (first | exact (Kd.R_reads' HO_214000.out).2.2 | (with_reducible refine Kd.C_alloc ?_ _) | (with_reducible refine Kd.C_drewN ?_ _) | (with_reducible refine Kd.C_drew ?_))); (case side2 => rw [show t229.length = t209.length from (Kd.R_reads' HO_214000.out).1.symm]; exact (Kd.R_reads' HO_214000.out).2.1); rintro e w116 ⟨rfl, hb⟩; refine ⟨_, rfl, ?_⟩; have n0_ := Aside0.mk (Kd.R_below (by exact HO_202000.out) hb); have n1_ := Aside0.mk (Kd.R_below (by exact HO_206000.out) hb); have n2_ := Aside0.mk (Kd.R_below (by exact HO_214000.out) hb); have n3_ := Aside0.mk (blk_below (g := gb189) (o := .cells #[.slice A0_0 l0_0.length c0_0] 34 (0, 0)) (by (with_reducible repeat (first | refine blk_drewN ?_ _ | refine blk_drew ?_ | refine blk_alloc ?_ _)); exact BK189.out) hb); have n4_ := Aside0.mk (blk_below (g := gb201) (o := .cells #[.slice Ao27 t197.length co27] 39 (0, 0)) (by (with_reducible repeat (first | refine blk_drewN ?_ _ | refine blk_drew ?_ | refine blk_alloc ?_ _)); exact BK201.out) hb); have n5_ := Aside0.mk (blk_below (g := gb205) (o := .cells #[.slice Ao33 t224.length co33] 39 (0, 0)) (by (with_reducible repeat (first | refine blk_drewN ?_ _ | refine blk_drew ?_ | refine blk_alloc ?_ _)); exact BK205.out) hb); have n6_ := Aside0.mk (blk_below (g := gb213) (o := .cells #[.slice Ao42 t209.length co42] 39 (0, 0)) (by (with_reducible repeat (first | refine blk_drewN ?_ _ | refine blk_drew ?_ | refine blk_alloc ?_ _)); exact BK213.out) hb); have n7_ := Aside0.mk (below_step (by repeat (first | (with_reducible first | exact HB.out | apply below_alloc | apply pw_below_drewN | apply below_drew1 | refine below_set ?_ GE189.out | refine below_set ?_ GE201.out | refine below_set ?_ GE205.out | refine below_set ?_ GE213.out) | exact HB.out)) hb); clear HO_202000; clear HO_206000; clear HO_214000; clear BK189; clear BK201; clear BK205; clear BK213; clear HB; have HO_202000 := n0_; have HO_206000 := n1_; have HO_214000 := n2_; have BK189 := n3_; have BK201 := n4_; have BK205 := n5_; have BK213 := n6_; have HB := n7_; clear n0_ n1_ n2_ n3_ n4_ n5_ n6_ n7_; (try clear hb)))
            go_ret
            exact ⟨by first | rfl | (simp [errW_none, errW_some] <;> rfl) | (simp [*, errW_none, errW_some] <;> rfl), by repeat (first | (with_reducible first | exact HB.out | apply below_alloc | apply pw_below_drewN | apply below_drew1 | refine below_set ?_ GE189.out | refine below_set ?_ GE201.out | refine below_set ?_ GE205.out | refine below_set ?_ GE213.out) | exact HB.out)⟩
           ·rw [if_neg c109] at H
            have c109b0 : decide (t230 < 0) = false := decide_eq_false c109
            clear c109
            by_cases c117 : t230 = t228
            ·rw [if_pos c117] at H
             have c117b0 : (t230 == t228) = true := beq_iff_eq.mpr c117
             have c117b1 : (t230 != t228) = false := bne_eq_false_iff_eq.mpr c117
             clear c117
             replace H := Option.bind_eq_some_iff.mp H
             obtain ⟨t231, A1180, H⟩ := H
             replace H : ((laws_toIntS.f kj73 l1).bind fun t234 => ((impl_LoseDisk.f kj73 t231 t234).bind fun bt237 => ((laws_eqDisk.f kj73 bt237.1 t197).bind fun t242 => (if t242 = true then (laws_FnExactLoseDisk.j2 kj73 t228 (bt237.2 != t200) t229) else (laws_FnExactLoseDisk.j2 kj73 t228 true t229))))) = some r := H
             have A118 := Aside0.mk A1180
             clear A1180
             replace H := Option.bind_eq_some_iff.mp H
             obtain ⟨t234, A1190, H⟩ := H
             replace H : ((impl_LoseDisk.f kj73 t231 t234).bind fun bt237 => ((laws_eqDisk.f kj73 bt237.1 t197).bind fun t242 => (if t242 = true then (laws_FnExactLoseDisk.j2 kj73 t228 (bt237.2 != t200) t229) else (laws_FnExactLoseDisk.j2 kj73 t228 true t229)))) = some r := H
             have A119 := Aside0.mk A1190
             clear A1190
             replace H := Option.bind_eq_some_iff.mp H
             obtain ⟨⟨t237, t240⟩, A1200, H⟩ := H
             replace H : ((laws_eqDisk.f kj73 t237 t197).bind fun t242 => (if t242 = true then (laws_FnExactLoseDisk.j2 kj73 t228 (t240 != t200) t229) else (laws_FnExactLoseDisk.j2 kj73 t228 true t229))) = some r := H
             have A120 := Aside0.mk A1200
             clear A1200
             have HC121 := Aside0.mk H
             clear H
             have hnb122 := NB213_189.out
             have hnc122 := NB189_213.out
             have hnb123 := NB213_201.out
             have hnc123 := NB201_213.out
             have hnb124 := NB213_205.out
             have hnc124 := NB205_213.out
             have hcz125_0 : wc.cell? ⟨gb213, 0, none⟩ = some (.slice Ao42 t209.length co42) := (blk_cell BK213.out 0).trans rfl
             have hfz125_0 := blk_frozen BK213.out 0
             go_upto_region 31 with (first | ((with_reducible refine gate_callee (f := 32) rfl ?_); refine goesL_ (some 83) rfl rfl Try.func32 (by kernel_rfl) rfl #[.agg #[.slice Ao42 t209.length co42], .int .i64 1] rfl (by (try simp only [List.map_toArray, List.map_cons, List.map_nil]); first | done | rfl) ?_; (with_reducible refine (laws_markDisk.calls kj73 (fun k_ => some k_ = (.slice Ao42 t209.length co42 : Value).ownBlock) (.slice Ao42 t209.length co42) t209 1 t228 t229 w _ ?side1 ?side2 A107.out).mono ?_); (case side1 => repeat (first | (with_reducible first | exact HB.out | apply below_alloc | apply pw_below_drewN | apply below_drew1 | refine below_set ?_ GE189.out | refine below_set ?_ GE201.out | refine below_set ?_ GE205.out | refine below_set ?_ GE213.out) | exact HB.out)); (case side2 => exact Kd.R_tight rfl HO_214000.out); rintro e w126 ⟨rfl, hy0, hb, hkp⟩; refine ⟨_, rfl, ?_⟩; have n0_ := Aside0.mk (Kd.R_mono (ok' := fun k_ => some k_ ≠ (.slice Ao33 t224.length co33 : Value).ownBlock ∧ some k_ ≠ (.slice Ao42 t209.length co42 : Value).ownBlock) (Kd.R_keptB (HO_202000.out) hkp (fun k_ hk_ hs_ => (hk_.2) hs_)) (fun k_ hk_ => ⟨hk_.1.1, hk_.1.2⟩)); have n1_ := Aside0.mk (Kd.R_mono (ok' := fun k_ => some k_ ≠ (.slice Ao27 t197.length co27 : Value).ownBlock ∧ some k_ ≠ (.slice Ao42 t209.length co42 : Value).ownBlock) (Kd.R_keptB (HO_206000.out) hkp (fun k_ hk_ hs_ => (hk_.2) hs_)) (fun k_ hk_ => ⟨hk_.1.1, hk_.1.2⟩)); have n2_ := Aside0.mk (Kd.R_reok rfl hy0 (fun k_ e_ => HO_214000.out.1 k_ e_)); have n3_ := Aside0.mk (blk_kept (by (with_reducible repeat (first | refine blk_drewN ?_ _ | refine blk_drew ?_ | refine blk_alloc ?_ _)); exact BK189.out) hkp (fun hs_ => (fun e_ => (Kd.R_ne HO_214000.out BK189.out (by decide)) e_) hs_)); have n4_ := Aside0.mk (blk_kept (by (with_reducible repeat (first | refine blk_drewN ?_ _ | refine blk_drew ?_ | refine blk_alloc ?_ _)); exact BK201.out) hkp (fun hs_ => (fun e_ => (Kd.R_ne HO_214000.out BK201.out (by decide)) e_) hs_)); have n5_ := Aside0.mk (blk_kept (by (with_reducible repeat (first | refine blk_drewN ?_ _ | refine blk_drew ?_ | refine blk_alloc ?_ _)); exact BK205.out) hkp (fun hs_ => (fun e_ => (Kd.R_ne HO_214000.out BK205.out (by decide)) e_) hs_)); have n6_ := Aside0.mk (blk_kept (by (with_reducible repeat (first | refine blk_drewN ?_ _ | refine blk_drew ?_ | refine blk_alloc ?_ _)); exact BK213.out) hkp (fun hs_ => (fun e_ => (Kd.R_ne HO_214000.out BK213.out (by decide)) e_) hs_)); have n7_ := Aside0.mk (hb); clear HO_202000; clear HO_206000; clear HO_214000; clear BK189; clear BK201; clear BK205; clear BK213; clear HB; have HO_202000 := n0_; have HO_206000 := n1_; have HO_214000 := n2_; have BK189 := n3_; have BK201 := n4_; have BK205 := n5_; have BK213 := n6_; have HB := n7_; clear n0_ n1_ n2_ n3_ n4_ n5_ n6_ n7_; (try clear hb); (try clear hkp); (try clear hy0); have hcz127_0 : w126.cell? ⟨gb213, 0, none⟩ = some (.slice Ao42 t209.length co42) := (blk_cell BK213.out 0).trans rfl; have hfz127_0 := blk_frozen BK213.out 0) | ((with_reducible refine gate_callee (f := 34) rfl ?_); refine goesL_ (some 86) rfl rfl Try.func34 (by kernel_rfl) rfl #[.agg #[.slice Ao42 t229.length co42], .int .i64 1] rfl (by (try simp only [List.map_toArray, List.map_cons, List.map_nil]); first | done | (rw [show t229.length = t209.length from (Kd.R_reads' HO_214000.out).1.symm] <;> rfl) | rfl | (simp only [List.length_drop, List.length_take]; rfl)) ?_; (with_reducible refine (laws_heldDisk.calls kj73 _ _ t229 1 t230 _ ?side1 ?side2 A108.out).mono ?_); (case side1 => repeat (first | exact (Kd.R_reads' HO_214000.out).2.2 | (with_reducible refine Kd.C_alloc ?_ _) | (with_reducible refine Kd.C_drewN ?_ _) | (with_reducible refine Kd.C_drew ?_))); (case side2 => rw [show t229.length = t209.length from (Kd.R_reads' HO_214000.out).1.symm]; exact (Kd.R_reads' HO_214000.out).2.1); rintro e w128 ⟨rfl, hb⟩; refine ⟨_, rfl, ?_⟩; have n0_ := Aside0.mk (Kd.R_below (by exact HO_202000.out) hb); have n1_ := Aside0.mk (Kd.R_below (by exact HO_206000.out) hb); have n2_ := Aside0.mk (Kd.R_below (by exact HO_214000.out) hb); have n3_ := Aside0.mk (blk_below (g := gb189) (o := .cells #[.slice A0_0 l0_0.length c0_0] 34 (0, 0)) (by (with_reducible repeat (first | refine blk_drewN ?_ _ | refine blk_drew ?_ | refine blk_alloc ?_ _)); exact BK189.out) hb); have n4_ := Aside0.mk (blk_below (g := gb201) (o := .cells #[.slice Ao27 t197.length co27] 39 (0, 0)) (by (with_reducible repeat (first | refine blk_drewN ?_ _ | refine blk_drew ?_ | refine blk_alloc ?_ _)); exact BK201.out) hb); have n5_ := Aside0.mk (blk_below (g := gb205) (o := .cells #[.slice Ao33 t224.length co33] 39 (0, 0)) (by (with_reducible repeat (first | refine blk_drewN ?_ _ | refine blk_drew ?_ | refine blk_alloc ?_ _)); exact BK205.out) hb); have n6_ := Aside0.mk (blk_below (g := gb213) (o := .cells #[.slice Ao42 t209.length co42] 39 (0, 0)) (by (with_reducible repeat (first | refine blk_drewN ?_ _ | refine blk_drew ?_ | refine blk_alloc ?_ _)); exact BK213.out) hb); have n7_ := Aside0.mk (below_step (by repeat (first | (with_reducible first | exact HB.out | apply below_alloc | apply pw_below_drewN | apply below_drew1 | refine below_set ?_ GE189.out | refine below_set ?_ GE201.out | refine below_set ?_ GE205.out | refine below_set ?_ GE213.out) | exact HB.out)) hb); clear HO_202000; clear HO_206000; clear HO_214000; clear BK189; clear BK201; clear BK205; clear BK213; clear HB; have HO_202000 := n0_; have HO_206000 := n1_; have HO_214000 := n2_; have BK189 := n3_; have BK201 := n4_; have BK205 := n5_; have BK213 := n6_; have HB := n7_; clear n0_ n1_ n2_ n3_ n4_ n5_ n6_ n7_; (try clear hb); have hnb129 := NB189_201.out; have hnc129 := NB201_189.out; have hnb130 := NB189_205.out; have hnc130 := NB205_189.out; have hcz131_0 : w128.cell? ⟨gb189, 0, none⟩ = some (.slice A0_0 l0_0.length c0_0) := (blk_cell BK189.out 0).trans rfl; have hfz131_0 := blk_frozen BK189.out 0) | ((with_reducible refine gate_callee (f := 18) rfl ?_); refine goesL_ (some 94) rfl rfl Try.func18 (by kernel_rfl) rfl #[.agg #[.slice A0_0 l0_0.length c0_0]] rfl (by (try simp only [List.map_toArray, List.map_cons, List.map_nil]); first | done | rfl) ?_; (with_reducible refine (laws_toDisk.calls kj73 _ _ l0_0 t231 _ ?side1 ?side2 A118.out).mono ?_); (case side1 => repeat (first | exact (Kd.C_below HR0_0.out HB.out) | (with_reducible refine Kd.C_alloc ?_ _) | (with_reducible refine Kd.C_drewN ?_ _) | (with_reducible refine Kd.C_drew ?_))); (case side2 => exact HC0_0.out); rintro e w132 ⟨v232, rfl, ho0, hb⟩; refine ⟨_, rfl, ?_⟩; have n0_ := Aside0.mk (Kd.R_elder' (by exact HO_202000.out) (Kd.R_base ho0) hb); have n1_ := Aside0.mk (Kd.R_elder' (by exact HO_206000.out) (Kd.R_base ho0) hb); have n2_ := Aside0.mk (Kd.R_elder' (by exact HO_214000.out) (Kd.R_base ho0) hb); have n3_ := Aside0.mk (Kd.R_lower (Kd.R_new' (Kd.R_new' (Kd.R_new' ho0 (Kd.R_lt (by exact HO_202000.out))) (Kd.R_lt (by exact HO_206000.out))) (Kd.R_lt (by exact HO_214000.out))) (below_size (by repeat (first | (with_reducible first | exact HB.out | apply below_alloc | apply pw_below_drewN | apply below_drew1 | refine below_set ?_ GE189.out | refine below_set ?_ GE201.out | refine below_set ?_ GE205.out | refine below_set ?_ GE213.out) | exact HB.out)))); have n4_ := Aside0.mk (blk_below (g := gb189) (o := .cells #[.slice A0_0 l0_0.length c0_0] 34 (0, 0)) (by (with_reducible repeat (first | refine blk_drewN ?_ _ | refine blk_drew ?_ | refine blk_alloc ?_ _)); exact BK189.out) hb); have n5_ := Aside0.mk (blk_below (g := gb201) (o := .cells #[.slice Ao27 t197.length co27] 39 (0, 0)) (by (with_reducible repeat (first | refine blk_drewN ?_ _ | refine blk_drew ?_ | refine blk_alloc ?_ _)); exact BK201.out) hb); have n6_ := Aside0.mk (blk_below (g := gb205) (o := .cells #[.slice Ao33 t224.length co33] 39 (0, 0)) (by (with_reducible repeat (first | refine blk_drewN ?_ _ | refine blk_drew ?_ | refine blk_alloc ?_ _)); exact BK205.out) hb); have n7_ := Aside0.mk (blk_below (g := gb213) (o := .cells #[.slice Ao42 t209.length co42] 39 (0, 0)) (by (with_reducible repeat (first | refine blk_drewN ?_ _ | refine blk_drew ?_ | refine blk_alloc ?_ _)); exact BK213.out) hb); have n8_ := Aside0.mk (below_step (by repeat (first | (with_reducible first | exact HB.out | apply below_alloc | apply pw_below_drewN | apply below_drew1 | refine below_set ?_ GE189.out | refine below_set ?_ GE201.out | refine below_set ?_ GE205.out | refine below_set ?_ GE213.out) | exact HB.out)) hb); clear HO_202000; clear HO_206000; clear HO_214000; clear BK189; clear BK201; clear BK205; clear BK213; clear HB; have HO_202000 := n0_; have HO_206000 := n1_; have HO_214000 := n2_; have HO233 := n3_; have BK189 := n4_; have BK201 := n5_; have BK205 := n6_; have BK213 := n7_; have HB := n8_; clear n0_ n1_ n2_ n3_ n4_ n5_ n6_ n7_ n8_; (try clear hb); (try clear ho0)) | ((with_reducible refine gate_callee (f := 29) rfl ?_); refine goesL_ (some 96) rfl rfl Try.func29 (by kernel_rfl) rfl #[.slice A1 l1.length c1] rfl (by (try simp only [List.map_toArray, List.map_cons, List.map_nil]); first | done | rfl) ?_; (with_reducible refine (laws_toIntS.calls kj73 _ _ l1 t234 _ ?side1 ?side2 A119.out).mono ?_); (case side1 => repeat (first | exact (Kd.C_below HR1.out HB.out) | (with_reducible refine Kd.C_alloc ?_ _) | (with_reducible refine Kd.C_drewN ?_ _) | (with_reducible refine Kd.C_drew ?_))); (case side2 => exact HC1.out); rintro e w133 ⟨v235, rfl, ho0, hb⟩; refine ⟨_, rfl, ?_⟩; have n0_ := Aside0.mk (Kd.R_below (by exact HO_202000.out) hb); have n1_ := Aside0.mk (Kd.R_below (by exact HO_206000.out) hb); have n2_ := Aside0.mk (Kd.R_below (by exact HO_214000.out) hb); have n3_ := Aside0.mk (Kd.R_below (by exact HO233.out) hb); have n4_ := Aside0.mk (Kd.R_lower ho0 (below_size (by repeat (first | (with_reducible first | exact HB.out | apply below_alloc | apply pw_below_drewN | apply below_drew1 | refine below_set ?_ GE189.out | refine below_set ?_ GE201.out | refine below_set ?_ GE205.out | refine below_set ?_ GE213.out) | exact HB.out)))); have n5_ := Aside0.mk (blk_below (g := gb189) (o := .cells #[.slice A0_0 l0_0.length c0_0] 34 (0, 0)) (by (with_reducible repeat (first | refine blk_drewN ?_ _ | refine blk_drew ?_ | refine blk_alloc ?_ _)); exact BK189.out) hb); have n6_ := Aside0.mk (blk_below (g := gb201) (o := .cells #[.slice Ao27 t197.length co27] 39 (0, 0)) (by (with_reducible repeat (first | refine blk_drewN ?_ _ | refine blk_drew ?_ | refine blk_alloc ?_ _)); exact BK201.out) hb); have n7_ := Aside0.mk (blk_below (g := gb205) (o := .cells #[.slice Ao33 t224.length co33] 39 (0, 0)) (by (with_reducible repeat (first | refine blk_drewN ?_ _ | refine blk_drew ?_ | refine blk_alloc ?_ _)); exact BK205.out) hb); have n8_ := Aside0.mk (blk_below (g := gb213) (o := .cells #[.slice Ao42 t209.length co42] 39 (0, 0)) (by (with_reducible repeat (first | refine blk_drewN ?_ _ | refine blk_drew ?_ | refine blk_alloc ?_ _)); exact BK213.out) hb); have n9_ := Aside0.mk (below_step (by repeat (first | (with_reducible first | exact HB.out | apply below_alloc | apply pw_below_drewN | apply below_drew1 | refine below_set ?_ GE189.out | refine below_set ?_ GE201.out | refine below_set ?_ GE205.out | refine below_set ?_ GE213.out) | exact HB.out)) hb); clear HO_202000; clear HO_206000; clear HO_214000; clear HO233; clear BK189; clear BK201; clear BK205; clear BK213; clear HB; have HO_202000 := n0_; have HO_206000 := n1_; have HO_214000 := n2_; have HO233 := n3_; have HO236 := n4_; have BK189 := n5_; have BK201 := n6_; have BK205 := n7_; have BK213 := n8_; have HB := n9_; clear n0_ n1_ n2_ n3_ n4_ n5_ n6_ n7_ n8_ n9_; (try clear hb); (try clear ho0); obtain ⟨Ao134, co134, eo134⟩ := Kd.R_slice HO233.out; subst eo134; obtain ⟨Ao135, co135, eo135⟩ := Kd.R_slice HO236.out; subst eo135) | ((with_reducible refine gate_callee (f := 30) rfl ?_); refine goesL_ (some 97) rfl rfl Try.func30 (by kernel_rfl) rfl #[.agg #[.slice Ao134 t231.length co134], .slice Ao135 t234.length co135] rfl (by (try simp only [List.map_toArray, List.map_cons, List.map_nil]); first | done | rfl) ?_; (with_reducible refine (impl_LoseDisk.calls kj73 _ _ t231 _ _ t234 t237 t240 _ ?side1 ?side2 ?side3 ?side4 A120.out).mono ?_); (case side1 => repeat (first | exact (Kd.R_reads' HO233.out).2.2 | (with_reducible refine Kd.C_alloc ?_ _) | (with_reducible refine Kd.C_drewN ?_ _) | (with_reducible refine Kd.C_drew ?_))); (case side2 => exact (Kd.R_reads' HO233.out).2.1); (case side3 => repeat (first | exact (Kd.R_reads' HO236.out).2.2 | (with_reducible refine Kd.C_alloc ?_ _) | (with_reducible refine Kd.C_drewN ?_ _) | (with_reducible refine Kd.C_drew ?_))); (case side4 => exact (Kd.R_reads' HO236.out).2.1); rintro e w136 ⟨v238, rfl, ho0, hb⟩; refine ⟨_, rfl, ?_⟩; have n0_ := Aside0.mk (Kd.R_elder' (by exact HO_202000.out) (Kd.R_base ho0) hb); have n1_ := Aside0.mk (Kd.R_elder' (by exact HO_206000.out) (Kd.R_base ho0) hb); have n2_ := Aside0.mk (Kd.R_elder' (by exact HO_214000.out) (Kd.R_base ho0) hb); have n3_ := Aside0.mk (Kd.R_elder' (by exact HO233.out) (Kd.R_base ho0) hb); have n4_ := Aside0.mk (Kd.R_below (by exact HO236.out) hb); have n5_ := Aside0.mk (Kd.R_lower (Kd.R_new' (Kd.R_new' (Kd.R_new' (Kd.R_new' ho0 (Kd.R_lt (by exact HO_202000.out))) (Kd.R_lt (by exact HO_206000.out))) (Kd.R_lt (by exact HO_214000.out))) (Kd.R_lt (by exact HO233.out))) (below_size (by repeat (first | (with_reducible first | exact HB.out | apply below_alloc | apply pw_below_drewN | apply below_drew1 | refine below_set ?_ GE189.out | refine below_set ?_ GE201.out | refine below_set ?_ GE205.out | refine below_set ?_ GE213.out) | exact HB.out)))); have n6_ := Aside0.mk (blk_below (g := gb189) (o := .cells #[.slice A0_0 l0_0.length c0_0] 34 (0, 0)) (by (with_reducible repeat (first | refine blk_drewN ?_ _ | refine blk_drew ?_ | refine blk_alloc ?_ _)); exact BK189.out) hb); have n7_ := Aside0.mk (blk_below (g := gb201) (o := .cells #[.slice Ao27 t197.length co27] 39 (0, 0)) (by (with_reducible repeat (first | refine blk_drewN ?_ _ | refine blk_drew ?_ | refine blk_alloc ?_ _)); exact BK201.out) hb); have n8_ := Aside0.mk (blk_below (g := gb205) (o := .cells #[.slice Ao33 t224.length co33] 39 (0, 0)) (by (with_reducible repeat (first | refine blk_drewN ?_ _ | refine blk_drew ?_ | refine blk_alloc ?_ _)); exact BK205.out) hb); have n9_ := Aside0.mk (blk_below (g := gb213) (o := .cells #[.slice Ao42 t209.length co42] 39 (0, 0)) (by (with_reducible repeat (first | refine blk_drewN ?_ _ | refine blk_drew ?_ | refine blk_alloc ?_ _)); exact BK213.out) hb); have n10_ := Aside0.mk (below_step (by repeat (first | (with_reducible first | exact HB.out | apply below_alloc | apply pw_below_drewN | apply below_drew1 | refine below_set ?_ GE189.out | refine below_set ?_ GE201.out | refine below_set ?_ GE205.out | refine below_set ?_ GE213.out) | exact HB.out)) hb); clear HO_202000; clear HO_206000; clear HO_214000; clear HO233; clear HO236; clear BK189; clear BK201; clear BK205; clear BK213; clear HB; have HO_202000 := n0_; have HO_206000 := n1_; have HO_214000 := n2_; have HO233 := n3_; have HO236 := n4_; have HO239 := n5_; have BK189 := n6_; have BK201 := n7_; have BK205 := n8_; have BK213 := n9_; have HB := n10_; clear n0_ n1_ n2_ n3_ n4_ n5_ n6_ n7_ n8_ n9_ n10_; (try clear hb); (try clear ho0)) | ((with_reducible refine gate_dst (N := 15) rfl ?_); refine box_event ?hg (N := 15) ?hd (cs := #[.slice none 0 0]) (t := 39) ?hr ?_; (case hd => rfl); (case hg => rfl); (case hr => first | (go_simp; done) | (go_simp; rfl)); intro gb241 hg w137 hbox hb; have n0_ := Aside0.mk (Kd.R_below (by exact HO_202000.out) hb); have n1_ := Aside0.mk (Kd.R_below (by exact HO_206000.out) hb); have n2_ := Aside0.mk (Kd.R_below (by exact HO_214000.out) hb); have n3_ := Aside0.mk (Kd.R_below (by exact HO233.out) hb); have n4_ := Aside0.mk (Kd.R_below (by exact HO236.out) hb); have n5_ := Aside0.mk (Kd.R_below (by exact HO239.out) hb); have n6_ := Aside0.mk (blk_below (g := gb189) (o := .cells #[.slice A0_0 l0_0.length c0_0] 34 (0, 0)) (by (with_reducible repeat (first | refine blk_drewN ?_ _ | refine blk_drew ?_ | refine blk_alloc ?_ _)); exact BK189.out) hb); have n7_ := Aside0.mk (blk_below (g := gb201) (o := .cells #[.slice Ao27 t197.length co27] 39 (0, 0)) (by (with_reducible repeat (first | refine blk_drewN ?_ _ | refine blk_drew ?_ | refine blk_alloc ?_ _)); exact BK201.out) hb); have n8_ := Aside0.mk (blk_below (g := gb205) (o := .cells #[.slice Ao33 t224.length co33] 39 (0, 0)) (by (with_reducible repeat (first | refine blk_drewN ?_ _ | refine blk_drew ?_ | refine blk_alloc ?_ _)); exact BK205.out) hb); have n9_ := Aside0.mk (blk_below (g := gb213) (o := .cells #[.slice Ao42 t209.length co42] 39 (0, 0)) (by (with_reducible repeat (first | refine blk_drewN ?_ _ | refine blk_drew ?_ | refine blk_alloc ?_ _)); exact BK213.out) hb); have n10_ := Aside0.mk (below_step (by repeat (first | (with_reducible first | exact HB.out | apply below_alloc | apply pw_below_drewN | apply below_drew1 | refine below_set ?_ GE189.out | refine below_set ?_ GE201.out | refine below_set ?_ GE205.out | refine below_set ?_ GE213.out) | exact HB.out)) hb); have n11_ := Aside0.mk (hbox); have n12_ := Aside0.mk ((by rw [hg]; exact (below_size (by repeat (first | (with_reducible first | exact HB.out | apply below_alloc | apply pw_below_drewN | apply below_drew1 | refine below_set ?_ GE189.out | refine below_set ?_ GE201.out | refine below_set ?_ GE205.out | refine below_set ?_ GE213.out) | exact HB.out))) : w.heap.size ≤ gb241)); have n13_ := Aside0.mk ((by rw [hg]; exact (below_size (by repeat (first | (with_reducible first | exact HB.out | apply below_alloc | apply pw_below_drewN | apply below_drew1 | refine below_set ?_ GE189.out | refine below_set ?_ GE201.out | refine below_set ?_ GE205.out | refine below_set ?_ GE213.out) | exact HB.out))) : w.heap.size ≤ gb241)); have n14_ := Aside0.mk ((by rw [hg]; exact Nat.ne_of_lt (blk_lt (g := gb189) (o := .cells #[.slice A0_0 l0_0.length c0_0] 34 (0, 0)) (by (with_reducible repeat (first | refine blk_drewN ?_ _ | refine blk_drew ?_ | refine blk_alloc ?_ _)); exact BK189.out)) : gb189 ≠ gb241)); have n15_ := Aside0.mk ((by rw [hg]; exact Nat.ne_of_gt (blk_lt (g := gb189) (o := .cells #[.slice A0_0 l0_0.length c0_0] 34 (0, 0)) (by (with_reducible repeat (first | refine blk_drewN ?_ _ | refine blk_drew ?_ | refine blk_alloc ?_ _)); exact BK189.out)) : gb241 ≠ gb189)); have n16_ := Aside0.mk ((by rw [hg]; exact Nat.ne_of_lt (blk_lt (g := gb201) (o := .cells #[.slice Ao27 t197.length co27] 39 (0, 0)) (by (with_reducible repeat (first | refine blk_drewN ?_ _ | refine blk_drew ?_ | refine blk_alloc ?_ _)); exact BK201.out)) : gb201 ≠ gb241)); have n17_ := Aside0.mk ((by rw [hg]; exact Nat.ne_of_gt (blk_lt (g := gb201) (o := .cells #[.slice Ao27 t197.length co27] 39 (0, 0)) (by (with_reducible repeat (first | refine blk_drewN ?_ _ | refine blk_drew ?_ | refine blk_alloc ?_ _)); exact BK201.out)) : gb241 ≠ gb201)); have n18_ := Aside0.mk ((by rw [hg]; exact Nat.ne_of_lt (blk_lt (g := gb205) (o := .cells #[.slice Ao33 t224.length co33] 39 (0, 0)) (by (with_reducible repeat (first | refine blk_drewN ?_ _ | refine blk_drew ?_ | refine blk_alloc ?_ _)); exact BK205.out)) : gb205 ≠ gb241)); have n19_ := Aside0.mk ((by rw [hg]; exact Nat.ne_of_gt (blk_lt (g := gb205) (o := .cells #[.slice Ao33 t224.length co33] 39 (0, 0)) (by (with_reducible repeat (first | refine blk_drewN ?_ _ | refine blk_drew ?_ | refine blk_alloc ?_ _)); exact BK205.out)) : gb241 ≠ gb205)); have n20_ := Aside0.mk ((by rw [hg]; exact Nat.ne_of_lt (blk_lt (g := gb213) (o := .cells #[.slice Ao42 t209.length co42] 39 (0, 0)) (by (with_reducible repeat (first | refine blk_drewN ?_ _ | refine blk_drew ?_ | refine blk_alloc ?_ _)); exact BK213.out)) : gb213 ≠ gb241)); have n21_ := Aside0.mk ((by rw [hg]; exact Nat.ne_of_gt (blk_lt (g := gb213) (o := .cells #[.slice Ao42 t209.length co42] 39 (0, 0)) (by (with_reducible repeat (first | refine blk_drewN ?_ _ | refine blk_drew ?_ | refine blk_alloc ?_ _)); exact BK213.out)) : gb241 ≠ gb213)); clear HO_202000; clear HO_206000; clear HO_214000; clear HO233; clear HO236; clear HO239; clear BK189; clear BK201; clear BK205; clear BK213; clear HB; have HO_202000 := n0_; have HO_206000 := n1_; have HO_214000 := n2_; have HO233 := n3_; have HO236 := n4_; have HO239 := n5_; have BK189 := n6_; have BK201 := n7_; have BK205 := n8_; have BK213 := n9_; have HB := n10_; have BK241 := n11_; have GW241 := n12_; have GE241 := n13_; have NB189_241 := n14_; have NB241_189 := n15_; have NB201_241 := n16_; have NB241_201 := n17_; have NB205_241 := n18_; have NB241_205 := n19_; have NB213_241 := n20_; have NB241_213 := n21_; clear n0_ n1_ n2_ n3_ n4_ n5_ n6_ n7_ n8_ n9_ n10_ n11_ n12_ n13_ n14_ n15_ n16_ n17_ n18_ n19_ n20_ n21_; clear hb hbox hg; obtain ⟨Ao138, co138, eo138⟩ := Kd.R_slice HO239.out; subst eo138; have hnb139 := NB241_189.out; have hnc139 := NB189_241.out; have hnb140 := NB241_201.out; have hnc140 := NB201_241.out; have hnb141 := NB241_205.out; have hnc141 := NB205_241.out; have hnb142 := NB241_213.out; have hnc142 := NB213_241.out; have hcz143_0 : w137.cell? ⟨gb241, 0, none⟩ = some (.slice none 0 0) := (blk_cell BK241.out 0).trans rfl; have hfz143_0 := blk_frozen BK241.out 0))
             (try simp only [Act.put, List.setIfInBounds_toArray, List.set_cons_zero, List.set_cons_succ])
             go_cut [108] (fun v108 wc => ∃ (kq : Nat) (x108_120 : Bool), v108 = .bool x108_120 ∧ Aside0 (laws_FnExactLoseDisk.j2 kq t228 x108_120 t229 = some r) ∧ Aside0 (kq ≤ kj73) ∧ Aside0 (Kd.R k57 57 wc w.heap.size (fun k_ => some k_ ≠ ((.slice Ao33 t224.length co33) : Value).ownBlock ∧ some k_ ≠ ((.slice Ao42 t209.length co42) : Value).ownBlock ∧ some k_ ≠ ((.slice Ao138 t237.length co138) : Value).ownBlock) (.slice Ao27 t197.length co27) t197) ∧ Aside0 (Kd.R k57 57 wc w.heap.size (fun k_ => some k_ ≠ ((.slice Ao27 t197.length co27) : Value).ownBlock ∧ some k_ ≠ ((.slice Ao42 t209.length co42) : Value).ownBlock ∧ some k_ ≠ ((.slice Ao138 t237.length co138) : Value).ownBlock) (.slice Ao33 t224.length co33) t224) ∧ Aside0 (Kd.R k57 57 wc w.heap.size (fun k_ => some k_ ≠ ((.slice Ao27 t197.length co27) : Value).ownBlock ∧ some k_ ≠ ((.slice Ao33 t224.length co33) : Value).ownBlock ∧ some k_ ≠ ((.slice Ao138 t237.length co138) : Value).ownBlock) (.slice Ao42 t209.length co42) t229) ∧ Aside0 (Kd.R k57 57 wc w.heap.size (fun k_ => some k_ ≠ ((.slice Ao27 t197.length co27) : Value).ownBlock ∧ some k_ ≠ ((.slice Ao33 t224.length co33) : Value).ownBlock ∧ some k_ ≠ ((.slice Ao42 t209.length co42) : Value).ownBlock) (.slice Ao138 t237.length co138) t237) ∧ Aside0 (wc.heap[gb189]? = some (.cells #[(.slice A0_0 l0_0.length c0_0)] 34 (0, 0))) ∧ Aside0 (wc.heap[gb201]? = some (.cells #[(.slice Ao27 t197.length co27)] 39 (0, 0))) ∧ Aside0 (wc.heap[gb205]? = some (.cells #[(.slice Ao33 t224.length co33)] 39 (0, 0))) ∧ Aside0 (wc.heap[gb213]? = some (.cells #[(.slice Ao42 t209.length co42)] 39 (0, 0))) ∧ Aside0 (wc.heap[gb241]? = some (.cells #[(.slice Ao138 t237.length co138)] 39 (0, 0))) ∧ Aside0 (Below w.heap.size w wc))
             case first =>
              have H := HC121.out
              clear HC121
              replace H := Option.bind_eq_some_iff.mp H
              obtain ⟨t242, A1440, H⟩ := H
              replace H : (if t242 = true then (laws_FnExactLoseDisk.j2 kj73 t228 (t240 != t200) t229) else (laws_FnExactLoseDisk.j2 kj73 t228 true t229)) = some r := H
              have A144 := Aside0.mk A1440
              clear A1440
              by_cases c145 : t242 = true
              ·subst c145
               have H1 : (laws_FnExactLoseDisk.j2 kj73 t228 (t240 != t200) t229) = some r := by rw [if_pos rfl] at H; exact H
               clear H
               have H := H1
               clear H1
               have H' := Aside0.mk H
               clear H
               have hnb146 := NB241_189.out
               have hnc146 := NB189_241.out
               have hnb147 := NB241_201.out
               have hnc147 := NB201_241.out
               have hnb148 := NB241_205.out
               have hnc148 := NB205_241.out
               have hnb149 := NB241_213.out
               have hnc149 := NB213_241.out
               have hcz150_0 : w137.cell? ⟨gb241, 0, none⟩ = some (.slice none 0 0) := (blk_cell BK241.out 0).trans rfl
               have hfz150_0 := blk_frozen BK241.out 0
               have hnb151 := NB201_189.out
               have hnc151 := NB189_201.out
               have hnb152 := NB201_205.out
               have hnc152 := NB205_201.out
               have hnb153 := NB201_213.out
               have hnc153 := NB213_201.out
               have hcz154_0 : w137.cell? ⟨gb201, 0, none⟩ = some (.slice Ao27 t197.length co27) := (blk_cell BK201.out 0).trans rfl
               have hfz154_0 := blk_frozen BK201.out 0
               go_wp2_with (first | ((with_reducible refine gate_callee (f := 20) rfl ?_); refine goesL_ (some 102) rfl rfl Try.func20 (by kernel_rfl) rfl #[.agg #[.slice Ao138 t237.length co138], .agg #[.slice Ao27 t197.length co27]] rfl (by (try simp only [List.map_toArray, List.map_cons, List.map_nil]); first | done | rfl) ?_; (with_reducible refine (laws_eqDisk.calls kj73 _ _ t237 _ _ t197 true _ ?side1 ?side2 ?side3 ?side4 A144.out).mono ?_); (case side1 => refine (Kd.R_reads' (e := 57) (base := w.heap.size) (ok := fun k_ => ((((True ∧ some k_ ≠ (.slice Ao27 t197.length co27 : Value).ownBlock) ∧ some k_ ≠ (.slice Ao33 t224.length co33 : Value).ownBlock) ∧ some k_ ≠ (.slice Ao42 t209.length co42 : Value).ownBlock) ∧ some k_ ≠ (.slice Ao134 t231.length co134 : Value).ownBlock)) (n := t237.length) (c := co138) ?_).2.2; exact (by exact (Kd.R_mono (Kd.R_far (p := ⟨gb241, 0, none⟩) (Kd.R_types HO239.out BK241.out (by decide)) (fun _ hk => hk.2) (.slice Ao138 t237.length co138)) (fun _ h_ => h_.1)))); (case side2 => exact (Kd.R_reads' HO239.out).2.1); (case side3 => refine (Kd.R_reads' (e := 57) (base := w.heap.size) (ok := fun k_ => (((some k_ ≠ (.slice Ao33 t224.length co33 : Value).ownBlock ∧ some k_ ≠ (.slice Ao42 t209.length co42 : Value).ownBlock) ∧ some k_ ≠ (.slice Ao134 t231.length co134 : Value).ownBlock) ∧ some k_ ≠ (.slice Ao138 t237.length co138 : Value).ownBlock)) (n := t197.length) (c := co27) ?_).2.2; exact (by exact (Kd.R_mono (Kd.R_far (p := ⟨gb241, 0, none⟩) (Kd.R_types HO_202000.out BK241.out (by decide)) (fun _ hk => hk.2) (.slice Ao138 t237.length co138)) (fun _ h_ => h_.1)))); (case side4 => exact (Kd.R_reads' HO_202000.out).2.1); rintro e w155 ⟨rfl, hb⟩; refine ⟨_, rfl, ?_⟩; have n0_ := Aside0.mk (Kd.R_below (by exact (Kd.R_mono (Kd.R_far (p := ⟨gb241, 0, none⟩) (Kd.R_types HO_202000.out BK241.out (by decide)) (fun _ hk => hk.2) (.slice Ao138 t237.length co138)) (fun _ h_ => h_.1))) hb); have n1_ := Aside0.mk (Kd.R_below (by exact (Kd.R_mono (Kd.R_far (p := ⟨gb241, 0, none⟩) (Kd.R_types HO_206000.out BK241.out (by decide)) (fun _ hk => hk.2) (.slice Ao138 t237.length co138)) (fun _ h_ => h_.1))) hb); have n2_ := Aside0.mk (Kd.R_below (by exact (Kd.R_mono (Kd.R_far (p := ⟨gb241, 0, none⟩) (Kd.R_types HO_214000.out BK241.out (by decide)) (fun _ hk => hk.2) (.slice Ao138 t237.length co138)) (fun _ h_ => h_.1))) hb); have n3_ := Aside0.mk (Kd.R_below (by exact (Kd.R_mono (Kd.R_far (p := ⟨gb241, 0, none⟩) (Kd.R_types HO233.out BK241.out (by decide)) (fun _ hk => hk.2) (.slice Ao138 t237.length co138)) (fun _ h_ => h_.1))) hb); have n4_ := Aside0.mk (Kd.R_below (by exact (Kd.R_mono (Kd.R_far (p := ⟨gb241, 0, none⟩) (Kd.R_types HO236.out BK241.out (by decide)) (fun _ hk => hk.2) (.slice Ao138 t237.length co138)) (fun _ h_ => h_.1))) hb); have n5_ := Aside0.mk (Kd.R_below (by exact (Kd.R_mono (Kd.R_far (p := ⟨gb241, 0, none⟩) (Kd.R_types HO239.out BK241.out (by decide)) (fun _ hk => hk.2) (.slice Ao138 t237.length co138)) (fun _ h_ => h_.1))) hb); have n6_ := Aside0.mk (blk_below (g := gb189) (o := .cells #[.slice A0_0 l0_0.length c0_0] 34 (0, 0)) (by (with_reducible repeat (first | refine blk_drewN ?_ _ | refine blk_drew ?_ | refine blk_alloc ?_ _)); refine blk_far ?_ NB189_241.out _; (with_reducible repeat (first | refine blk_drewN ?_ _ | refine blk_drew ?_ | refine blk_alloc ?_ _)); exact BK189.out) hb); have n7_ := Aside0.mk (blk_below (g := gb201) (o := .cells #[.slice Ao27 t197.length co27] 39 (0, 0)) (by (with_reducible repeat (first | refine blk_drewN ?_ _ | refine blk_drew ?_ | refine blk_alloc ?_ _)); refine blk_far ?_ NB201_241.out _; (with_reducible repeat (first | refine blk_drewN ?_ _ | refine blk_drew ?_ | refine blk_alloc ?_ _)); exact BK201.out) hb); have n8_ := Aside0.mk (blk_below (g := gb205) (o := .cells #[.slice Ao33 t224.length co33] 39 (0, 0)) (by (with_reducible repeat (first | refine blk_drewN ?_ _ | refine blk_drew ?_ | refine blk_alloc ?_ _)); refine blk_far ?_ NB205_241.out _; (with_reducible repeat (first | refine blk_drewN ?_ _ | refine blk_drew ?_ | refine blk_alloc ?_ _)); exact BK205.out) hb); have n9_ := Aside0.mk (blk_below (g := gb213) (o := .cells #[.slice Ao42 t209.length co42] 39 (0, 0)) (by (with_reducible repeat (first | refine blk_drewN ?_ _ | refine blk_drew ?_ | refine blk_alloc ?_ _)); refine blk_far ?_ NB213_241.out _; (with_reducible repeat (first | refine blk_drewN ?_ _ | refine blk_drew ?_ | refine blk_alloc ?_ _)); exact BK213.out) hb); have n10_ := Aside0.mk (blk_below (g := gb241) (o := .cells #[.slice Ao138 t237.length co138] 39 (0, 0)) (by (with_reducible repeat (first | refine blk_drewN ?_ _ | refine blk_drew ?_ | refine blk_alloc ?_ _)); refine blk_put (cs := #[.slice none 0 0]) ?_ 0 _ rfl; (with_reducible repeat (first | refine blk_drewN ?_ _ | refine blk_drew ?_ | refine blk_alloc ?_ _)); exact BK241.out) hb); have n11_ := Aside0.mk (below_step (by repeat (first | (with_reducible first | exact HB.out | apply below_alloc | apply pw_below_drewN | apply below_drew1 | refine below_set ?_ GE189.out | refine below_set ?_ GE201.out | refine below_set ?_ GE205.out | refine below_set ?_ GE213.out | refine below_set ?_ GE241.out) | exact HB.out)) hb); clear HO_202000; clear HO_206000; clear HO_214000; clear HO233; clear HO236; clear HO239; clear BK189; clear BK201; clear BK205; clear BK213; clear BK241; clear HB; have HO_202000 := n0_; have HO_206000 := n1_; have HO_214000 := n2_; have HO233 := n3_; have HO236 := n4_; have HO239 := n5_; have BK189 := n6_; have BK201 := n7_; have BK205 := n8_; have BK213 := n9_; have BK241 := n10_; have HB := n11_; clear n0_ n1_ n2_ n3_ n4_ n5_ n6_ n7_ n8_ n9_ n10_ n11_; (try clear hb); (try clear hk)))
               go_meet
               case rel => exact ⟨_, ((t240 != t200)), (by first | rfl | (simp; done) | (simp [*]; done)), H', ⟨by have := HJ15.out; have := HJ73.out; first | omega | exact Nat.le_refl _⟩, ⟨by (try simp only [hl206000_73]); exact Kd.R_mono HO_202000.out (fun _ hk => ⟨hk.1.1.1, ⟨hk.1.1.2, hk.2⟩⟩)⟩, ⟨by (try simp only [hl206000_73]); exact Kd.R_mono HO_206000.out (fun _ hk => ⟨hk.1.1.1, ⟨hk.1.1.2, hk.2⟩⟩)⟩, ⟨by (try simp only [hl206000_73]); exact Kd.R_mono HO_214000.out (fun _ hk => ⟨hk.1.1.1, ⟨hk.1.1.2, hk.2⟩⟩)⟩, ⟨by (try simp only [hl206000_73]); exact Kd.R_mono HO239.out (fun _ hk => ⟨hk.1.1.1.2, ⟨hk.1.1.2, hk.1.2⟩⟩)⟩, ⟨by (try simp only [hl206000_73]); (with_reducible repeat (first | refine blk_drewN ?_ _ | refine blk_drew ?_ | refine blk_alloc ?_ _)); exact BK189.out⟩, ⟨by (try simp only [hl206000_73]); (with_reducible repeat (first | refine blk_drewN ?_ _ | refine blk_drew ?_ | refine blk_alloc ?_ _)); exact BK201.out⟩, ⟨by (try simp only [hl206000_73]); (with_reducible repeat (first | refine blk_drewN ?_ _ | refine blk_drew ?_ | refine blk_alloc ?_ _)); exact BK205.out⟩, ⟨by (try simp only [hl206000_73]); (with_reducible repeat (first | refine blk_drewN ?_ _ | refine blk_drew ?_ | refine blk_alloc ?_ _)); exact BK213.out⟩, ⟨by (try simp only [hl206000_73]); (with_reducible repeat (first | refine blk_drewN ?_ _ | refine blk_drew ?_ | refine blk_alloc ?_ _)); exact BK241.out⟩, ⟨by repeat (first | (with_reducible first | exact HB.out | apply below_alloc | apply pw_below_drewN | apply below_drew1 | refine below_set ?_ GE189.out | refine below_set ?_ GE201.out | refine below_set ?_ GE205.out | refine below_set ?_ GE213.out | refine below_set ?_ GE241.out) | exact HB.out)⟩⟩
              ·replace c145 := Bool.eq_false_iff.mpr c145
               subst c145
               have H1 : (laws_FnExactLoseDisk.j2 kj73 t228 true t229) = some r := by rw [if_neg (show ¬ (false = true) by decide)] at H; exact H
               clear H
               have H := H1
               clear H1
               have H' := Aside0.mk H
               clear H
               have hnb156 := NB241_189.out
               have hnc156 := NB189_241.out
               have hnb157 := NB241_201.out
               have hnc157 := NB201_241.out
               have hnb158 := NB241_205.out
               have hnc158 := NB205_241.out
               have hnb159 := NB241_213.out
               have hnc159 := NB213_241.out
               have hcz160_0 : w137.cell? ⟨gb241, 0, none⟩ = some (.slice none 0 0) := (blk_cell BK241.out 0).trans rfl
               have hfz160_0 := blk_frozen BK241.out 0
               have hnb161 := NB201_189.out
               have hnc161 := NB189_201.out
               have hnb162 := NB201_205.out
               have hnc162 := NB205_201.out
               have hnb163 := NB201_213.out
               have hnc163 := NB213_201.out
               have hcz164_0 : w137.cell? ⟨gb201, 0, none⟩ = some (.slice Ao27 t197.length co27) := (blk_cell BK201.out 0).trans rfl
               have hfz164_0 := blk_frozen BK201.out 0
               go_wp2_with (first | ((with_reducible refine gate_callee (f := 20) rfl ?_); refine goesL_ (some 102) rfl rfl Try.func20 (by kernel_rfl) rfl #[.agg #[.slice Ao138 t237.length co138], .agg #[.slice Ao27 t197.length co27]] rfl (by (try simp only [List.map_toArray, List.map_cons, List.map_nil]); first | done | rfl) ?_; (with_reducible refine (laws_eqDisk.calls kj73 _ _ t237 _ _ t197 false _ ?side1 ?side2 ?side3 ?side4 A144.out).mono ?_); (case side1 => refine (Kd.R_reads' (e := 57) (base := w.heap.size) (ok := fun k_ => ((((True ∧ some k_ ≠ (.slice Ao27 t197.length co27 : Value).ownBlock) ∧ some k_ ≠ (.slice Ao33 t224.length co33 : Value).ownBlock) ∧ some k_ ≠ (.slice Ao42 t209.length co42 : Value).ownBlock) ∧ some k_ ≠ (.slice Ao134 t231.length co134 : Value).ownBlock)) (n := t237.length) (c := co138) ?_).2.2; exact (by exact (Kd.R_mono (Kd.R_far (p := ⟨gb241, 0, none⟩) (Kd.R_types HO239.out BK241.out (by decide)) (fun _ hk => hk.2) (.slice Ao138 t237.length co138)) (fun _ h_ => h_.1)))); (case side2 => exact (Kd.R_reads' HO239.out).2.1); (case side3 => refine (Kd.R_reads' (e := 57) (base := w.heap.size) (ok := fun k_ => (((some k_ ≠ (.slice Ao33 t224.length co33 : Value).ownBlock ∧ some k_ ≠ (.slice Ao42 t209.length co42 : Value).ownBlock) ∧ some k_ ≠ (.slice Ao134 t231.length co134 : Value).ownBlock) ∧ some k_ ≠ (.slice Ao138 t237.length co138 : Value).ownBlock)) (n := t197.length) (c := co27) ?_).2.2; exact (by exact (Kd.R_mono (Kd.R_far (p := ⟨gb241, 0, none⟩) (Kd.R_types HO_202000.out BK241.out (by decide)) (fun _ hk => hk.2) (.slice Ao138 t237.length co138)) (fun _ h_ => h_.1)))); (case side4 => exact (Kd.R_reads' HO_202000.out).2.1); rintro e w165 ⟨rfl, hb⟩; refine ⟨_, rfl, ?_⟩; have n0_ := Aside0.mk (Kd.R_below (by exact (Kd.R_mono (Kd.R_far (p := ⟨gb241, 0, none⟩) (Kd.R_types HO_202000.out BK241.out (by decide)) (fun _ hk => hk.2) (.slice Ao138 t237.length co138)) (fun _ h_ => h_.1))) hb); have n1_ := Aside0.mk (Kd.R_below (by exact (Kd.R_mono (Kd.R_far (p := ⟨gb241, 0, none⟩) (Kd.R_types HO_206000.out BK241.out (by decide)) (fun _ hk => hk.2) (.slice Ao138 t237.length co138)) (fun _ h_ => h_.1))) hb); have n2_ := Aside0.mk (Kd.R_below (by exact (Kd.R_mono (Kd.R_far (p := ⟨gb241, 0, none⟩) (Kd.R_types HO_214000.out BK241.out (by decide)) (fun _ hk => hk.2) (.slice Ao138 t237.length co138)) (fun _ h_ => h_.1))) hb); have n3_ := Aside0.mk (Kd.R_below (by exact (Kd.R_mono (Kd.R_far (p := ⟨gb241, 0, none⟩) (Kd.R_types HO233.out BK241.out (by decide)) (fun _ hk => hk.2) (.slice Ao138 t237.length co138)) (fun _ h_ => h_.1))) hb); have n4_ := Aside0.mk (Kd.R_below (by exact (Kd.R_mono (Kd.R_far (p := ⟨gb241, 0, none⟩) (Kd.R_types HO236.out BK241.out (by decide)) (fun _ hk => hk.2) (.slice Ao138 t237.length co138)) (fun _ h_ => h_.1))) hb); have n5_ := Aside0.mk (Kd.R_below (by exact (Kd.R_mono (Kd.R_far (p := ⟨gb241, 0, none⟩) (Kd.R_types HO239.out BK241.out (by decide)) (fun _ hk => hk.2) (.slice Ao138 t237.length co138)) (fun _ h_ => h_.1))) hb); have n6_ := Aside0.mk (blk_below (g := gb189) (o := .cells #[.slice A0_0 l0_0.length c0_0] 34 (0, 0)) (by (with_reducible repeat (first | refine blk_drewN ?_ _ | refine blk_drew ?_ | refine blk_alloc ?_ _)); refine blk_far ?_ NB189_241.out _; (with_reducible repeat (first | refine blk_drewN ?_ _ | refine blk_drew ?_ | refine blk_alloc ?_ _)); exact BK189.out) hb); have n7_ := Aside0.mk (blk_below (g := gb201) (o := .cells #[.slice Ao27 t197.length co27] 39 (0, 0)) (by (with_reducible repeat (first | refine blk_drewN ?_ _ | refine blk_drew ?_ | refine blk_alloc ?_ _)); refine blk_far ?_ NB201_241.out _; (with_reducible repeat (first | refine blk_drewN ?_ _ | refine blk_drew ?_ | refine blk_alloc ?_ _)); exact BK201.out) hb); have n8_ := Aside0.mk (blk_below (g := gb205) (o := .cells #[.slice Ao33 t224.length co33] 39 (0, 0)) (by (with_reducible repeat (first | refine blk_drewN ?_ _ | refine blk_drew ?_ | refine blk_alloc ?_ _)); refine blk_far ?_ NB205_241.out _; (with_reducible repeat (first | refine blk_drewN ?_ _ | refine blk_drew ?_ | refine blk_alloc ?_ _)); exact BK205.out) hb); have n9_ := Aside0.mk (blk_below (g := gb213) (o := .cells #[.slice Ao42 t209.length co42] 39 (0, 0)) (by (with_reducible repeat (first | refine blk_drewN ?_ _ | refine blk_drew ?_ | refine blk_alloc ?_ _)); refine blk_far ?_ NB213_241.out _; (with_reducible repeat (first | refine blk_drewN ?_ _ | refine blk_drew ?_ | refine blk_alloc ?_ _)); exact BK213.out) hb); have n10_ := Aside0.mk (blk_below (g := gb241) (o := .cells #[.slice Ao138 t237.length co138] 39 (0, 0)) (by (with_reducible repeat (first | refine blk_drewN ?_ _ | refine blk_drew ?_ | refine blk_alloc ?_ _)); refine blk_put (cs := #[.slice none 0 0]) ?_ 0 _ rfl; (with_reducible repeat (first | refine blk_drewN ?_ _ | refine blk_drew ?_ | refine blk_alloc ?_ _)); exact BK241.out) hb); have n11_ := Aside0.mk (below_step (by repeat (first | (with_reducible first | exact HB.out | apply below_alloc | apply pw_below_drewN | apply below_drew1 | refine below_set ?_ GE189.out | refine below_set ?_ GE201.out | refine below_set ?_ GE205.out | refine below_set ?_ GE213.out | refine below_set ?_ GE241.out) | exact HB.out)) hb); clear HO_202000; clear HO_206000; clear HO_214000; clear HO233; clear HO236; clear HO239; clear BK189; clear BK201; clear BK205; clear BK213; clear BK241; clear HB; have HO_202000 := n0_; have HO_206000 := n1_; have HO_214000 := n2_; have HO233 := n3_; have HO236 := n4_; have HO239 := n5_; have BK189 := n6_; have BK201 := n7_; have BK205 := n8_; have BK213 := n9_; have BK241 := n10_; have HB := n11_; clear n0_ n1_ n2_ n3_ n4_ n5_ n6_ n7_ n8_ n9_ n10_ n11_; (try clear hb); (try clear hk)))
               go_meet
               case rel => exact ⟨_, (true), (by first | rfl | (simp; done) | (simp [*]; done)), H', ⟨by have := HJ15.out; have := HJ73.out; first | omega | exact Nat.le_refl _⟩, ⟨by (try simp only [hl206000_73]); exact Kd.R_mono HO_202000.out (fun _ hk => ⟨hk.1.1.1, ⟨hk.1.1.2, hk.2⟩⟩)⟩, ⟨by (try simp only [hl206000_73]); exact Kd.R_mono HO_206000.out (fun _ hk => ⟨hk.1.1.1, ⟨hk.1.1.2, hk.2⟩⟩)⟩, ⟨by (try simp only [hl206000_73]); exact Kd.R_mono HO_214000.out (fun _ hk => ⟨hk.1.1.1, ⟨hk.1.1.2, hk.2⟩⟩)⟩, ⟨by (try simp only [hl206000_73]); exact Kd.R_mono HO239.out (fun _ hk => ⟨hk.1.1.1.2, ⟨hk.1.1.2, hk.1.2⟩⟩)⟩, ⟨by (try simp only [hl206000_73]); (with_reducible repeat (first | refine blk_drewN ?_ _ | refine blk_drew ?_ | refine blk_alloc ?_ _)); exact BK189.out⟩, ⟨by (try simp only [hl206000_73]); (with_reducible repeat (first | refine blk_drewN ?_ _ | refine blk_drew ?_ | refine blk_alloc ?_ _)); exact BK201.out⟩, ⟨by (try simp only [hl206000_73]); (with_reducible repeat (first | refine blk_drewN ?_ _ | refine blk_drew ?_ | refine blk_alloc ?_ _)); exact BK205.out⟩, ⟨by (try simp only [hl206000_73]); (with_reducible repeat (first | refine blk_drewN ?_ _ | refine blk_drew ?_ | refine blk_alloc ?_ _)); exact BK213.out⟩, ⟨by (try simp only [hl206000_73]); (with_reducible repeat (first | refine blk_drewN ?_ _ | refine blk_drew ?_ | refine blk_alloc ?_ _)); exact BK241.out⟩, ⟨by repeat (first | (with_reducible first | exact HB.out | apply below_alloc | apply pw_below_drewN | apply below_drew1 | refine below_set ?_ GE189.out | refine below_set ?_ GE201.out | refine below_set ?_ GE205.out | refine below_set ?_ GE213.out | refine below_set ?_ GE241.out) | exact HB.out)⟩⟩
             case rest =>
              clear HC121
              obtain ⟨kq, x108_120, rfl, HA, HJ120, HO_202000, HO_206000, HO_214000, HO_242000, BK189, BK201, BK205, BK213, BK241, HB⟩ := hcut
              have hl214000_120 := (Kd.R_reads' HO_214000.out).1
              rw [hl214000_120] at HO_214000
              (try simp only [hl214000_120])
              (try simp only [hl214000_120] at BK189)
              (try simp only [hl214000_120] at BK201)
              (try simp only [hl214000_120] at BK205)
              (try simp only [hl214000_120] at BK213)
              (try simp only [hl214000_120] at BK241)
              (try simp only [hl214000_120] at HO_202000)
              (try simp only [hl214000_120] at HO_206000)
              (try simp only [hl214000_120] at HO_242000)
              cases kq with
              | zero => exact absurd HA.out (by simp [laws_FnExactLoseDisk.j2])
              | succ kj120 =>
               have H := HA.out
               clear HA
               simp only [laws_FnExactLoseDisk.j2] at H
               by_cases c166 : x108_120 = true
               ·subst c166
                have H1 : (some false) = some r := by rw [if_pos rfl] at H; exact H
                clear H
                have H := H1
                clear H1
                obtain rfl := Option.some.inj H
                go_wp2
                go_ret
                exact ⟨by first | rfl | (simp [errW_none, errW_some] <;> rfl) | (simp [*, errW_none, errW_some] <;> rfl), by repeat (first | (with_reducible first | exact HB.out | apply below_alloc | apply pw_below_drewN | apply below_drew1 | refine below_set ?_ GE189.out | refine below_set ?_ GE201.out | refine below_set ?_ GE205.out | refine below_set ?_ GE213.out | refine below_set ?_ GE241.out) | exact HB.out)⟩
               ·replace c166 := Bool.eq_false_iff.mpr c166
                subst c166
                have H1 : ((laws_heldDisk.f kj120 t229 1).bind fun t243 => (if t243 < 0 then (some false) else (if t243 = t228 then (some true) else (some false)))) = some r := by rw [if_neg (show ¬ (false = true) by decide)] at H; exact H
                clear H
                have H := H1
                clear H1
                replace H := Option.bind_eq_some_iff.mp H
                obtain ⟨t243, A1670, H⟩ := H
                replace H : (if t243 < 0 then (some false) else (if t243 = t228 then (some true) else (some false))) = some r := H
                have A167 := Aside0.mk A1670
                clear A1670
                by_cases c168 : t243 < 0
                ·rw [if_pos c168] at H
                 have c168b0 : decide (t243 < 0) = true := decide_eq_true c168
                 clear c168
                 obtain rfl := Option.some.inj H
                 have hnb169 := NB213_189.out
                 have hnc169 := NB189_213.out
                 have hnb170 := NB213_201.out
                 have hnc170 := NB201_213.out
                 have hnb171 := NB213_205.out
                 have hnc171 := NB205_213.out
                 have hnb172 := NB213_241.out
                 have hnc172 := NB241_213.out
                 have hcz173_0 : wc.cell? ⟨gb213, 0, none⟩ = some (.slice Ao42 t229.length co42) := (blk_cell BK213.out 0).trans rfl
                 have hfz173_0 := blk_frozen BK213.out 0
                 go_wp2_with (first | ((with_reducible refine gate_callee (f := 34) rfl ?_); refine goesL_ (some 111) rfl rfl Try.func34 (by kernel_rfl) rfl #[.agg #[.slice Ao42 t229.length co42], .int .i64 1] rfl (by (try simp only [List.map_toArray, List.map_cons, List.map_nil]); first | done | rfl) ?_; (with_reducible refine (laws_heldDisk.calls kj120 _ _ t229 1 t243 _ ?side1 ?side2 A167.out).mono ?_); (case side1 => repeat (first | exact (Kd.R_reads' HO_214000.out).2.2 | (with_reducible refine Kd.C_alloc ?_ _) | (with_reducible refine Kd.C_drewN ?_ _) | (with_reducible refine Kd.C_drew ?_))); (case side2 => exact (Kd.R_reads' HO_214000.out).2.1); rintro e w174 ⟨rfl, hb⟩; refine ⟨_, rfl, ?_⟩; have n0_ := Aside0.mk (Kd.R_below (by exact HO_202000.out) hb); have n1_ := Aside0.mk (Kd.R_below (by exact HO_206000.out) hb); have n2_ := Aside0.mk (Kd.R_below (by exact HO_214000.out) hb); have n3_ := Aside0.mk (Kd.R_below (by exact HO_242000.out) hb); have n4_ := Aside0.mk (blk_below (g := gb189) (o := .cells #[.slice A0_0 l0_0.length c0_0] 34 (0, 0)) (by (with_reducible repeat (first | refine blk_drewN ?_ _ | refine blk_drew ?_ | refine blk_alloc ?_ _)); exact BK189.out) hb); have n5_ := Aside0.mk (blk_below (g := gb201) (o := .cells #[.slice Ao27 t197.length co27] 39 (0, 0)) (by (with_reducible repeat (first | refine blk_drewN ?_ _ | refine blk_drew ?_ | refine blk_alloc ?_ _)); exact BK201.out) hb); have n6_ := Aside0.mk (blk_below (g := gb205) (o := .cells #[.slice Ao33 t224.length co33] 39 (0, 0)) (by (with_reducible repeat (first | refine blk_drewN ?_ _ | refine blk_drew ?_ | refine blk_alloc ?_ _)); exact BK205.out) hb); have n7_ := Aside0.mk (blk_below (g := gb213) (o := .cells #[.slice Ao42 t229.length co42] 39 (0, 0)) (by (with_reducible repeat (first | refine blk_drewN ?_ _ | refine blk_drew ?_ | refine blk_alloc ?_ _)); exact BK213.out) hb); have n8_ := Aside0.mk (blk_below (g := gb241) (o := .cells #[.slice Ao138 t237.length co138] 39 (0, 0)) (by (with_reducible repeat (first | refine blk_drewN ?_ _ | refine blk_drew ?_ | refine blk_alloc ?_ _)); exact BK241.out) hb); have n9_ := Aside0.mk (below_step (by repeat (first | (with_reducible first | exact HB.out | apply below_alloc | apply pw_below_drewN | apply below_drew1 | refine below_set ?_ GE189.out | refine below_set ?_ GE201.out | refine below_set ?_ GE205.out | refine below_set ?_ GE213.out | refine below_set ?_ GE241.out) | exact HB.out)) hb); clear HO_202000; clear HO_206000; clear HO_214000; clear HO_242000; clear BK189; clear BK201; clear BK205; clear BK213; clear BK241; clear HB; have HO_202000 := n0_; have HO_206000 := n1_; have HO_214000 := n2_; have HO_242000 := n3_; have BK189 := n4_; have BK201 := n5_; have BK205 := n6_; have BK213 := n7_; have BK241 := n8_; have HB := n9_; clear n0_ n1_ n2_ n3_ n4_ n5_ n6_ n7_ n8_ n9_; (try clear hb)))
                 go_ret
                 exact ⟨by first | rfl | (simp [errW_none, errW_some] <;> rfl) | (simp [*, errW_none, errW_some] <;> rfl), by repeat (first | (with_reducible first | exact HB.out | apply below_alloc | apply pw_below_drewN | apply below_drew1 | refine below_set ?_ GE189.out | refine below_set ?_ GE201.out | refine below_set ?_ GE205.out | refine below_set ?_ GE213.out | refine below_set ?_ GE241.out) | exact HB.out)⟩
                ·rw [if_neg c168] at H
                 have c168b0 : decide (t243 < 0) = false := decide_eq_false c168
                 clear c168
                 by_cases c175 : t243 = t228
                 ·rw [if_pos c175] at H
                  have c175b0 : (t243 == t228) = true := beq_iff_eq.mpr c175
                  have c175b1 : (t243 != t228) = false := bne_eq_false_iff_eq.mpr c175
                  clear c175
                  obtain rfl := Option.some.inj H
                  have hnb176 := NB213_189.out
                  have hnc176 := NB189_213.out
                  have hnb177 := NB213_201.out
                  have hnc177 := NB201_213.out
                  have hnb178 := NB213_205.out
                  have hnc178 := NB205_213.out
                  have hnb179 := NB213_241.out
                  have hnc179 := NB241_213.out
                  have hcz180_0 : wc.cell? ⟨gb213, 0, none⟩ = some (.slice Ao42 t229.length co42) := (blk_cell BK213.out 0).trans rfl
                  have hfz180_0 := blk_frozen BK213.out 0
                  go_wp2_with (first | ((with_reducible refine gate_callee (f := 34) rfl ?_); refine goesL_ (some 111) rfl rfl Try.func34 (by kernel_rfl) rfl #[.agg #[.slice Ao42 t229.length co42], .int .i64 1] rfl (by (try simp only [List.map_toArray, List.map_cons, List.map_nil]); first | done | rfl) ?_; (with_reducible refine (laws_heldDisk.calls kj120 _ _ t229 1 t243 _ ?side1 ?side2 A167.out).mono ?_); (case side1 => repeat (first | exact (Kd.R_reads' HO_214000.out).2.2 | (with_reducible refine Kd.C_alloc ?_ _) | (with_reducible refine Kd.C_drewN ?_ _) | (with_reducible refine Kd.C_drew ?_))); (case side2 => exact (Kd.R_reads' HO_214000.out).2.1); rintro e w181 ⟨rfl, hb⟩; refine ⟨_, rfl, ?_⟩; have n0_ := Aside0.mk (Kd.R_below (by exact HO_202000.out) hb); have n1_ := Aside0.mk (Kd.R_below (by exact HO_206000.out) hb); have n2_ := Aside0.mk (Kd.R_below (by exact HO_214000.out) hb); have n3_ := Aside0.mk (Kd.R_below (by exact HO_242000.out) hb); have n4_ := Aside0.mk (blk_below (g := gb189) (o := .cells #[.slice A0_0 l0_0.length c0_0] 34 (0, 0)) (by (with_reducible repeat (first | refine blk_drewN ?_ _ | refine blk_drew ?_ | refine blk_alloc ?_ _)); exact BK189.out) hb); have n5_ := Aside0.mk (blk_below (g := gb201) (o := .cells #[.slice Ao27 t197.length co27] 39 (0, 0)) (by (with_reducible repeat (first | refine blk_drewN ?_ _ | refine blk_drew ?_ | refine blk_alloc ?_ _)); exact BK201.out) hb); have n6_ := Aside0.mk (blk_below (g := gb205) (o := .cells #[.slice Ao33 t224.length co33] 39 (0, 0)) (by (with_reducible repeat (first | refine blk_drewN ?_ _ | refine blk_drew ?_ | refine blk_alloc ?_ _)); exact BK205.out) hb); have n7_ := Aside0.mk (blk_below (g := gb213) (o := .cells #[.slice Ao42 t229.length co42] 39 (0, 0)) (by (with_reducible repeat (first | refine blk_drewN ?_ _ | refine blk_drew ?_ | refine blk_alloc ?_ _)); exact BK213.out) hb); have n8_ := Aside0.mk (blk_below (g := gb241) (o := .cells #[.slice Ao138 t237.length co138] 39 (0, 0)) (by (with_reducible repeat (first | refine blk_drewN ?_ _ | refine blk_drew ?_ | refine blk_alloc ?_ _)); exact BK241.out) hb); have n9_ := Aside0.mk (below_step (by repeat (first | (with_reducible first | exact HB.out | apply below_alloc | apply pw_below_drewN | apply below_drew1 | refine below_set ?_ GE189.out | refine below_set ?_ GE201.out | refine below_set ?_ GE205.out | refine below_set ?_ GE213.out | refine below_set ?_ GE241.out) | exact HB.out)) hb); clear HO_202000; clear HO_206000; clear HO_214000; clear HO_242000; clear BK189; clear BK201; clear BK205; clear BK213; clear BK241; clear HB; have HO_202000 := n0_; have HO_206000 := n1_; have HO_214000 := n2_; have HO_242000 := n3_; have BK189 := n4_; have BK201 := n5_; have BK205 := n6_; have BK213 := n7_; have BK241 := n8_; have HB := n9_; clear n0_ n1_ n2_ n3_ n4_ n5_ n6_ n7_ n8_ n9_; (try clear hb)))
                  go_ret
                  exact ⟨by first | rfl | (simp [errW_none, errW_some] <;> rfl) | (simp [*, errW_none, errW_some] <;> rfl), by repeat (first | (with_reducible first | exact HB.out | apply below_alloc | apply pw_below_drewN | apply below_drew1 | refine below_set ?_ GE189.out | refine below_set ?_ GE201.out | refine below_set ?_ GE205.out | refine below_set ?_ GE213.out | refine below_set ?_ GE241.out) | exact HB.out)⟩
                 ·rw [if_neg c175] at H
                  have c175b0 : (t243 == t228) = false := beq_eq_false_iff_ne.mpr c175
                  have c175b1 : (t243 != t228) = true := bne_iff_ne.mpr c175
                  obtain rfl := Option.some.inj H
                  have hnb182 := NB213_189.out
                  have hnc182 := NB189_213.out
                  have hnb183 := NB213_201.out
                  have hnc183 := NB201_213.out
                  have hnb184 := NB213_205.out
                  have hnc184 := NB205_213.out
                  have hnb185 := NB213_241.out
                  have hnc185 := NB241_213.out
                  have hcz186_0 : wc.cell? ⟨gb213, 0, none⟩ = some (.slice Ao42 t229.length co42) := (blk_cell BK213.out 0).trans rfl
                  have hfz186_0 := blk_frozen BK213.out 0
                  go_wp2_with (first | ((with_reducible refine gate_callee (f := 34) rfl ?_); refine goesL_ (some 111) rfl rfl Try.func34 (by kernel_rfl) rfl #[.agg #[.slice Ao42 t229.length co42], .int .i64 1] rfl (by (try simp only [List.map_toArray, List.map_cons, List.map_nil]); first | done | rfl) ?_; (with_reducible refine (laws_heldDisk.calls kj120 _ _ t229 1 t243 _ ?side1 ?side2 A167.out).mono ?_); (case side1 => repeat (first | exact (Kd.R_reads' HO_214000.out).2.2 | (with_reducible refine Kd.C_alloc ?_ _) | (with_reducible refine Kd.C_drewN ?_ _) | (with_reducible refine Kd.C_drew ?_))); (case side2 => exact (Kd.R_reads' HO_214000.out).2.1); rintro e w187 ⟨rfl, hb⟩; refine ⟨_, rfl, ?_⟩; have n0_ := Aside0.mk (Kd.R_below (by exact HO_202000.out) hb); have n1_ := Aside0.mk (Kd.R_below (by exact HO_206000.out) hb); have n2_ := Aside0.mk (Kd.R_below (by exact HO_214000.out) hb); have n3_ := Aside0.mk (Kd.R_below (by exact HO_242000.out) hb); have n4_ := Aside0.mk (blk_below (g := gb189) (o := .cells #[.slice A0_0 l0_0.length c0_0] 34 (0, 0)) (by (with_reducible repeat (first | refine blk_drewN ?_ _ | refine blk_drew ?_ | refine blk_alloc ?_ _)); exact BK189.out) hb); have n5_ := Aside0.mk (blk_below (g := gb201) (o := .cells #[.slice Ao27 t197.length co27] 39 (0, 0)) (by (with_reducible repeat (first | refine blk_drewN ?_ _ | refine blk_drew ?_ | refine blk_alloc ?_ _)); exact BK201.out) hb); have n6_ := Aside0.mk (blk_below (g := gb205) (o := .cells #[.slice Ao33 t224.length co33] 39 (0, 0)) (by (with_reducible repeat (first | refine blk_drewN ?_ _ | refine blk_drew ?_ | refine blk_alloc ?_ _)); exact BK205.out) hb); have n7_ := Aside0.mk (blk_below (g := gb213) (o := .cells #[.slice Ao42 t229.length co42] 39 (0, 0)) (by (with_reducible repeat (first | refine blk_drewN ?_ _ | refine blk_drew ?_ | refine blk_alloc ?_ _)); exact BK213.out) hb); have n8_ := Aside0.mk (blk_below (g := gb241) (o := .cells #[.slice Ao138 t237.length co138] 39 (0, 0)) (by (with_reducible repeat (first | refine blk_drewN ?_ _ | refine blk_drew ?_ | refine blk_alloc ?_ _)); exact BK241.out) hb); have n9_ := Aside0.mk (below_step (by repeat (first | (with_reducible first | exact HB.out | apply below_alloc | apply pw_below_drewN | apply below_drew1 | refine below_set ?_ GE189.out | refine below_set ?_ GE201.out | refine below_set ?_ GE205.out | refine below_set ?_ GE213.out | refine below_set ?_ GE241.out) | exact HB.out)) hb); clear HO_202000; clear HO_206000; clear HO_214000; clear HO_242000; clear BK189; clear BK201; clear BK205; clear BK213; clear BK241; clear HB; have HO_202000 := n0_; have HO_206000 := n1_; have HO_214000 := n2_; have HO_242000 := n3_; have BK189 := n4_; have BK201 := n5_; have BK205 := n6_; have BK213 := n7_; have BK241 := n8_; have HB := n9_; clear n0_ n1_ n2_ n3_ n4_ n5_ n6_ n7_ n8_ n9_; (try clear hb)))
                  go_ret
                  exact ⟨by first | rfl | (simp [errW_none, errW_some] <;> rfl) | (simp [*, errW_none, errW_some] <;> rfl), by repeat (first | (with_reducible first | exact HB.out | apply below_alloc | apply pw_below_drewN | apply below_drew1 | refine below_set ?_ GE189.out | refine below_set ?_ GE201.out | refine below_set ?_ GE205.out | refine below_set ?_ GE213.out | refine below_set ?_ GE241.out) | exact HB.out)⟩
            ·rw [if_neg c117] at H
             have c117b0 : (t230 == t228) = false := beq_eq_false_iff_ne.mpr c117
             have c117b1 : (t230 != t228) = true := bne_iff_ne.mpr c117
             obtain rfl := Option.some.inj H
             have hnb188 := NB213_189.out
             have hnc188 := NB189_213.out
             have hnb189 := NB213_201.out
             have hnc189 := NB201_213.out
             have hnb190 := NB213_205.out
             have hnc190 := NB205_213.out
             have hcz191_0 : wc.cell? ⟨gb213, 0, none⟩ = some (.slice Ao42 t209.length co42) := (blk_cell BK213.out 0).trans rfl
             have hfz191_0 := blk_frozen BK213.out 0
             go_wp2_with (first | ((with_reducible refine gate_callee (f := 32) rfl ?_); refine goesL_ (some 83) rfl rfl Try.func32 (by kernel_rfl) rfl #[.agg #[.slice Ao42 t209.length co42], .int .i64 1] rfl (by (try simp only [List.map_toArray, List.map_cons, List.map_nil]); first | done | rfl) ?_; (with_reducible refine (laws_markDisk.calls kj73 (fun k_ => some k_ = (.slice Ao42 t209.length co42 : Value).ownBlock) (.slice Ao42 t209.length co42) t209 1 t228 t229 w _ ?side1 ?side2 A107.out).mono ?_); (case side1 => repeat (first | (with_reducible first | exact HB.out | apply below_alloc | apply pw_below_drewN | apply below_drew1 | refine below_set ?_ GE189.out | refine below_set ?_ GE201.out | refine below_set ?_ GE205.out | refine below_set ?_ GE213.out) | exact HB.out)); (case side2 => exact Kd.R_tight rfl HO_214000.out); rintro e w192 ⟨rfl, hy0, hb, hkp⟩; refine ⟨_, rfl, ?_⟩; have n0_ := Aside0.mk (Kd.R_mono (ok' := fun k_ => some k_ ≠ (.slice Ao33 t224.length co33 : Value).ownBlock ∧ some k_ ≠ (.slice Ao42 t209.length co42 : Value).ownBlock) (Kd.R_keptB (HO_202000.out) hkp (fun k_ hk_ hs_ => (hk_.2) hs_)) (fun k_ hk_ => ⟨hk_.1.1, hk_.1.2⟩)); have n1_ := Aside0.mk (Kd.R_mono (ok' := fun k_ => some k_ ≠ (.slice Ao27 t197.length co27 : Value).ownBlock ∧ some k_ ≠ (.slice Ao42 t209.length co42 : Value).ownBlock) (Kd.R_keptB (HO_206000.out) hkp (fun k_ hk_ hs_ => (hk_.2) hs_)) (fun k_ hk_ => ⟨hk_.1.1, hk_.1.2⟩)); have n2_ := Aside0.mk (Kd.R_reok rfl hy0 (fun k_ e_ => HO_214000.out.1 k_ e_)); have n3_ := Aside0.mk (blk_kept (by (with_reducible repeat (first | refine blk_drewN ?_ _ | refine blk_drew ?_ | refine blk_alloc ?_ _)); exact BK189.out) hkp (fun hs_ => (fun e_ => (Kd.R_ne HO_214000.out BK189.out (by decide)) e_) hs_)); have n4_ := Aside0.mk (blk_kept (by (with_reducible repeat (first | refine blk_drewN ?_ _ | refine blk_drew ?_ | refine blk_alloc ?_ _)); exact BK201.out) hkp (fun hs_ => (fun e_ => (Kd.R_ne HO_214000.out BK201.out (by decide)) e_) hs_)); have n5_ := Aside0.mk (blk_kept (by (with_reducible repeat (first | refine blk_drewN ?_ _ | refine blk_drew ?_ | refine blk_alloc ?_ _)); exact BK205.out) hkp (fun hs_ => (fun e_ => (Kd.R_ne HO_214000.out BK205.out (by decide)) e_) hs_)); have n6_ := Aside0.mk (blk_kept (by (with_reducible repeat (first | refine blk_drewN ?_ _ | refine blk_drew ?_ | refine blk_alloc ?_ _)); exact BK213.out) hkp (fun hs_ => (fun e_ => (Kd.R_ne HO_214000.out BK213.out (by decide)) e_) hs_)); have n7_ := Aside0.mk (hb); clear HO_202000; clear HO_206000; clear HO_214000; clear BK189; clear BK201; clear BK205; clear BK213; clear HB; have HO_202000 := n0_; have HO_206000 := n1_; have HO_214000 := n2_; have BK189 := n3_; have BK201 := n4_; have BK205 := n5_; have BK213 := n6_; have HB := n7_; clear n0_ n1_ n2_ n3_ n4_ n5_ n6_ n7_; (try clear hb); (try clear hkp); (try clear hy0); have hcz193_0 : w192.cell? ⟨gb213, 0, none⟩ = some (.slice Ao42 t209.length co42) := (blk_cell BK213.out 0).trans rfl; have hfz193_0 := blk_frozen BK213.out 0) | ((with_reducible refine gate_callee (f := 34) rfl ?_); refine goesL_ (some 86) rfl rfl Try.func34 (by kernel_rfl) rfl #[.agg #[.slice Ao42 t229.length co42], .int .i64 1] rfl (by (try simp only [List.map_toArray, List.map_cons, List.map_nil]); first | done | (rw [show t229.length = t209.length from (Kd.R_reads' HO_214000.out).1.symm] <;> rfl) | rfl | (simp only [List.length_drop, List.length_take]; rfl)) ?_; (with_reducible refine (laws_heldDisk.calls kj73 _ _ t229 1 t230 _ ?side1 ?side2 A108.out).mono ?_); (case side1 => repeat (first | exact (Kd.R_reads' HO_214000.out).2.2 | (with_reducible refine Kd.C_alloc ?_ _) | (with_reducible refine Kd.C_drewN ?_ _) | (with_reducible refine Kd.C_drew ?_))); (case side2 => rw [show t229.length = t209.length from (Kd.R_reads' HO_214000.out).1.symm]; exact (Kd.R_reads' HO_214000.out).2.1); rintro e w194 ⟨rfl, hb⟩; refine ⟨_, rfl, ?_⟩; have n0_ := Aside0.mk (Kd.R_below (by exact HO_202000.out) hb); have n1_ := Aside0.mk (Kd.R_below (by exact HO_206000.out) hb); have n2_ := Aside0.mk (Kd.R_below (by exact HO_214000.out) hb); have n3_ := Aside0.mk (blk_below (g := gb189) (o := .cells #[.slice A0_0 l0_0.length c0_0] 34 (0, 0)) (by (with_reducible repeat (first | refine blk_drewN ?_ _ | refine blk_drew ?_ | refine blk_alloc ?_ _)); exact BK189.out) hb); have n4_ := Aside0.mk (blk_below (g := gb201) (o := .cells #[.slice Ao27 t197.length co27] 39 (0, 0)) (by (with_reducible repeat (first | refine blk_drewN ?_ _ | refine blk_drew ?_ | refine blk_alloc ?_ _)); exact BK201.out) hb); have n5_ := Aside0.mk (blk_below (g := gb205) (o := .cells #[.slice Ao33 t224.length co33] 39 (0, 0)) (by (with_reducible repeat (first | refine blk_drewN ?_ _ | refine blk_drew ?_ | refine blk_alloc ?_ _)); exact BK205.out) hb); have n6_ := Aside0.mk (blk_below (g := gb213) (o := .cells #[.slice Ao42 t209.length co42] 39 (0, 0)) (by (with_reducible repeat (first | refine blk_drewN ?_ _ | refine blk_drew ?_ | refine blk_alloc ?_ _)); exact BK213.out) hb); have n7_ := Aside0.mk (below_step (by repeat (first | (with_reducible first | exact HB.out | apply below_alloc | apply pw_below_drewN | apply below_drew1 | refine below_set ?_ GE189.out | refine below_set ?_ GE201.out | refine below_set ?_ GE205.out | refine below_set ?_ GE213.out) | exact HB.out)) hb); clear HO_202000; clear HO_206000; clear HO_214000; clear BK189; clear BK201; clear BK205; clear BK213; clear HB; have HO_202000 := n0_; have HO_206000 := n1_; have HO_214000 := n2_; have BK189 := n3_; have BK201 := n4_; have BK205 := n5_; have BK213 := n6_; have HB := n7_; clear n0_ n1_ n2_ n3_ n4_ n5_ n6_ n7_; (try clear hb); (try clear hb2); (try clear hk); (try clear hi)))
             go_ret
             exact ⟨by first | rfl | (simp [errW_none, errW_some] <;> rfl) | (simp [*, errW_none, errW_some] <;> rfl), by repeat (first | (with_reducible first | exact HB.out | apply below_alloc | apply pw_below_drewN | apply below_drew1 | refine below_set ?_ GE189.out | refine below_set ?_ GE201.out | refine below_set ?_ GE205.out | refine below_set ?_ GE213.out) | exact HB.out)⟩
       ·replace c71 := Bool.eq_false_iff.mpr c71
        subst c71
        have H1 : (some false) = some r := by rw [if_neg (show ¬ (false = true) by decide)] at H; exact H
        clear H
        have H := H1
        clear H1
        obtain rfl := Option.some.inj H
        try go_wp2
        have n0_ := Aside0.mk (Kd.R_drew HO_9.out)
        have n1_ := Aside0.mk (Kd.R_drew HO_202000.out)
        have n2_ := Aside0.mk (Kd.R_drew HO_206000.out)
        have n3_ := Aside0.mk (Kd.R_drew HO_214000.out)
        have n4_ := Aside0.mk (blk_drew BK189.out)
        have n5_ := Aside0.mk (blk_drew BK201.out)
        have n6_ := Aside0.mk (blk_drew BK205.out)
        have n7_ := Aside0.mk (blk_drew BK213.out)
        have n8_ := Aside0.mk (below_drew1 HB.out)
        clear HO_9
        clear HO_202000
        clear HO_206000
        clear HO_214000
        clear BK189
        clear BK201
        clear BK205
        clear BK213
        clear HB
        have HO_9 := n0_
        have HO_202000 := n1_
        have HO_206000 := n2_
        have HO_214000 := n3_
        have BK189 := n4_
        have BK201 := n5_
        have BK205 := n6_
        have BK213 := n7_
        have HB := n8_
        clear n0_ n1_ n2_ n3_ n4_ n5_ n6_ n7_ n8_
        refine start_ (n := 5) (S := fun w' => w'.cell? ⟨gb205, 0, none⟩ = some (.slice Ao33 t202.length co33) ∧ w'.cell? ⟨gb189, 0, none⟩ = some (.slice A0_0 l0_0.length c0_0)) (ds := []) #[false, false, false, false, false] (by kernel_rfl) rfl rfl ⟨(blk_cell BK205.out 0).trans rfl, (blk_cell BK189.out 0).trans rfl⟩ (fun hHeld => ?_)
        generalize wc.drew = w195 at HO_9 HO_202000 HO_206000 HO_214000 BK189 BK201 BK205 BK213 HB hHeld ⊢
        refine take_ (i := 0) (N := some 52) (v := ?_) (a' := ?_) #[true, false, false, false, false] rfl rfl (by kernel_rfl) (fun _ _ _ h => h) (Or.inl ⟨by rfl, ?_⟩) hHeld ?_ ?_
        rotate_left
        ·rintro w' ⟨s0, s1⟩
         go_simp
         with_reducible rfl
        rotate_left
        ·simp only [Act.put, List.setIfInBounds_toArray, List.set_cons_zero, List.set_cons_succ, i64_w, i32_w]
         rfl
        refine take_ (i := 1) (N := some 53) (v := ?_) (a' := ?_) #[true, true, false, false, false] rfl rfl (by kernel_rfl) (fun _ _ _ h => h) (Or.inl ⟨by rfl, ?_⟩) hHeld ?_ ?_
        rotate_left
        ·rintro w' ⟨s0, s1⟩
         go_simp
         with_reducible rfl
        rotate_left
        ·simp only [Act.put, List.setIfInBounds_toArray, List.set_cons_zero, List.set_cons_succ, i64_w, i32_w]
         rfl
        refine one_ (i := 2) (N := some 54) #[true, true, true, false, false] rfl rfl (by kernel_rfl) (by decide) (fun K hK => ?_)
        refine goes_ Try.func18 (by kernel_rfl) rfl #[.agg #[.slice A0_0 l0_0.length c0_0]] (by rfl) rfl rfl (by (try simp only [List.map_toArray, List.map_cons, List.map_nil]); first | done | rfl) ?_
        with_reducible refine (laws_toDisk.calls kj15 _ _ l0_0 t215 _ ?side1 ?side2 A66.out).mono ?_
        (case side1 => repeat (first | exact (Kd.C_below HR0_0.out HB.out) | (with_reducible refine Kd.C_alloc ?_ _) | (with_reducible refine Kd.C_drewN ?_ _) | (with_reducible refine Kd.C_drew ?_)))
        (case side2 => exact HC0_0.out)
        rintro e w196 ⟨v216, rfl, ho0, hb⟩
        refine ⟨_, rfl, ?_⟩
        have n0_ := Aside0.mk (Kd.R_below (by exact HO_9.out) hb)
        have n1_ := Aside0.mk (Kd.R_elder' (by exact HO_202000.out) (Kd.R_base ho0) hb)
        have n2_ := Aside0.mk (Kd.R_elder' (by exact HO_206000.out) (Kd.R_base ho0) hb)
        have n3_ := Aside0.mk (Kd.R_elder' (by exact HO_214000.out) (Kd.R_base ho0) hb)
        have n4_ := Aside0.mk (Kd.R_lower (Kd.R_new' (Kd.R_new' (Kd.R_new' ho0 (Kd.R_lt (by exact HO_202000.out))) (Kd.R_lt (by exact HO_206000.out))) (Kd.R_lt (by exact HO_214000.out))) (below_size (by repeat (first | (with_reducible first | exact HB.out | apply below_alloc | apply pw_below_drewN | apply below_drew1 | refine below_set ?_ GE189.out | refine below_set ?_ GE201.out | refine below_set ?_ GE205.out | refine below_set ?_ GE213.out) | exact HB.out))))
        have n5_ := Aside0.mk (blk_below (g := gb189) (o := .cells #[.slice A0_0 l0_0.length c0_0] 34 (0, 0)) (by (with_reducible repeat (first | refine blk_drewN ?_ _ | refine blk_drew ?_ | refine blk_alloc ?_ _)); exact BK189.out) hb)
        have n6_ := Aside0.mk (blk_below (g := gb201) (o := .cells #[.slice Ao27 t197.length co27] 39 (0, 0)) (by (with_reducible repeat (first | refine blk_drewN ?_ _ | refine blk_drew ?_ | refine blk_alloc ?_ _)); exact BK201.out) hb)
        have n7_ := Aside0.mk (blk_below (g := gb205) (o := .cells #[.slice Ao33 t202.length co33] 39 (0, 0)) (by (with_reducible repeat (first | refine blk_drewN ?_ _ | refine blk_drew ?_ | refine blk_alloc ?_ _)); exact BK205.out) hb)
        have n8_ := Aside0.mk (blk_below (g := gb213) (o := .cells #[.slice Ao42 t209.length co42] 39 (0, 0)) (by (with_reducible repeat (first | refine blk_drewN ?_ _ | refine blk_drew ?_ | refine blk_alloc ?_ _)); exact BK213.out) hb)
        have n9_ := Aside0.mk (below_step (by repeat (first | (with_reducible first | exact HB.out | apply below_alloc | apply pw_below_drewN | apply below_drew1 | refine below_set ?_ GE189.out | refine below_set ?_ GE201.out | refine below_set ?_ GE205.out | refine below_set ?_ GE213.out) | exact HB.out)) hb)
        clear HO_9
        clear HO_202000
        clear HO_206000
        clear HO_214000
        clear BK189
        clear BK201
        clear BK205
        clear BK213
        clear HB
        have HO_9 := n0_
        have HO_202000 := n1_
        have HO_206000 := n2_
        have HO_214000 := n3_
        have HO217 := n4_
        have BK189 := n5_
        have BK201 := n6_
        have BK205 := n7_
        have BK213 := n8_
        have HB := n9_
        clear n0_ n1_ n2_ n3_ n4_ n5_ n6_ n7_ n8_ n9_
        (try clear hb)
        (try clear hb2)
        (try clear hk)
        (try clear hi)
        (try clear ho0)
        obtain ⟨Ao197, co197, eo197⟩ := Kd.R_slice HO217.out
        (first | subst eo197 | (injection eo197 with f1_ f2_ f3_; have f4_ := f1_.symm; have f5_ := f3_.symm; clear f1_ f2_ f3_; subst f4_; subst f5_))
        refine hK.out _ _ ⟨(blk_cell BK205.out 0).trans rfl, (blk_cell BK189.out 0).trans rfl⟩ (fun hHeld => ?_)
        clear hK K
        refine norm_ (a' := ?_) ?_ ?_
        rotate_left
        ·show Act.put _ (some 54) _ = _
         simp only [Act.put, List.setIfInBounds_toArray, List.set_cons_zero, List.set_cons_succ, i64_w, i32_w]
         rfl
        refine one_ (i := 3) (N := some 55) #[true, true, true, true, false] rfl rfl (by kernel_rfl) (by decide) (fun K hK => ?_)
        refine goes_ Try.func20 (by kernel_rfl) rfl #[.agg #[.slice Ao33 t202.length co33], .agg #[.slice Ao197 t215.length co197]] (by rfl) rfl rfl (by (try simp only [List.map_toArray, List.map_cons, List.map_nil]); first | done | rfl) ?_
        with_reducible refine (laws_eqDisk.calls kj15 _ _ t202 _ _ t215 true _ ?side1 ?side2 ?side3 ?side4 A67.out).mono ?_
        (case side1 => repeat (first | exact (Kd.R_reads' HO_206000.out).2.2 | (with_reducible refine Kd.C_alloc ?_ _) | (with_reducible refine Kd.C_drewN ?_ _) | (with_reducible refine Kd.C_drew ?_)))
        (case side2 => exact (Kd.R_reads' HO_206000.out).2.1)
        (case side3 => repeat (first | exact (Kd.R_reads' HO217.out).2.2 | (with_reducible refine Kd.C_alloc ?_ _) | (with_reducible refine Kd.C_drewN ?_ _) | (with_reducible refine Kd.C_drew ?_)))
        (case side4 => exact (Kd.R_reads' HO217.out).2.1)
        rintro e w198 ⟨rfl, hb⟩
        refine ⟨_, rfl, ?_⟩
        have n0_ := Aside0.mk (Kd.R_below (by exact HO_9.out) hb)
        have n1_ := Aside0.mk (Kd.R_below (by exact HO_202000.out) hb)
        have n2_ := Aside0.mk (Kd.R_below (by exact HO_206000.out) hb)
        have n3_ := Aside0.mk (Kd.R_below (by exact HO_214000.out) hb)
        have n4_ := Aside0.mk (Kd.R_below (by exact HO217.out) hb)
        have n5_ := Aside0.mk (blk_below (g := gb189) (o := .cells #[.slice A0_0 l0_0.length c0_0] 34 (0, 0)) (by (with_reducible repeat (first | refine blk_drewN ?_ _ | refine blk_drew ?_ | refine blk_alloc ?_ _)); exact BK189.out) hb)
        have n6_ := Aside0.mk (blk_below (g := gb201) (o := .cells #[.slice Ao27 t197.length co27] 39 (0, 0)) (by (with_reducible repeat (first | refine blk_drewN ?_ _ | refine blk_drew ?_ | refine blk_alloc ?_ _)); exact BK201.out) hb)
        have n7_ := Aside0.mk (blk_below (g := gb205) (o := .cells #[.slice Ao33 t202.length co33] 39 (0, 0)) (by (with_reducible repeat (first | refine blk_drewN ?_ _ | refine blk_drew ?_ | refine blk_alloc ?_ _)); exact BK205.out) hb)
        have n8_ := Aside0.mk (blk_below (g := gb213) (o := .cells #[.slice Ao42 t209.length co42] 39 (0, 0)) (by (with_reducible repeat (first | refine blk_drewN ?_ _ | refine blk_drew ?_ | refine blk_alloc ?_ _)); exact BK213.out) hb)
        have n9_ := Aside0.mk (below_step (by repeat (first | (with_reducible first | exact HB.out | apply below_alloc | apply pw_below_drewN | apply below_drew1 | refine below_set ?_ GE189.out | refine below_set ?_ GE201.out | refine below_set ?_ GE205.out | refine below_set ?_ GE213.out) | exact HB.out)) hb)
        clear HO_9
        clear HO_202000
        clear HO_206000
        clear HO_214000
        clear HO217
        clear BK189
        clear BK201
        clear BK205
        clear BK213
        clear HB
        have HO_9 := n0_
        have HO_202000 := n1_
        have HO_206000 := n2_
        have HO_214000 := n3_
        have HO217 := n4_
        have BK189 := n5_
        have BK201 := n6_
        have BK205 := n7_
        have BK213 := n8_
        have HB := n9_
        clear n0_ n1_ n2_ n3_ n4_ n5_ n6_ n7_ n8_ n9_
        (try clear hb)
        (try clear hb2)
        (try clear hk)
        (try clear hi)
        refine hK.out _ _ ⟨(blk_cell BK205.out 0).trans rfl, (blk_cell BK189.out 0).trans rfl⟩ (fun hHeld => ?_)
        clear hK K
        refine norm_ (a' := ?_) ?_ ?_
        rotate_left
        ·show Act.put _ (some 55) _ = _
         simp only [Act.put, List.setIfInBounds_toArray, List.set_cons_zero, List.set_cons_succ, i64_w, i32_w]
         rfl
        refine pure_ (i := 4) (N := some 56) (v := ?_) (a' := ?_) #[true, true, true, true, true] rfl rfl (by kernel_rfl) (fun _ _ _ h => h) (Or.inl ⟨by rfl, ?_⟩) ?_ ?_
        rotate_left
        ·intro w'
         go_simp
         with_reducible rfl
        rotate_left
        ·simp only [Act.put, List.setIfInBounds_toArray, List.set_cons_zero, List.set_cons_succ, i64_w, i32_w]
         rfl
        refine done_ (by kernel_rfl) ?_
        try go_wp2_with (first | ((with_reducible refine gate_callee (f := 29) rfl ?_); refine goesL_ (some 59) rfl rfl Try.func29 (by kernel_rfl) rfl #[.slice A1 l1.length c1] rfl (by (try simp only [List.map_toArray, List.map_cons, List.map_nil]); first | done | rfl) ?_; (with_reducible refine (laws_toIntS.calls kj15 _ _ l1 t219 _ ?side1 ?side2 A69.out).mono ?_); (case side1 => repeat (first | exact (Kd.C_below HR1.out HB.out) | (with_reducible refine Kd.C_alloc ?_ _) | (with_reducible refine Kd.C_drewN ?_ _) | (with_reducible refine Kd.C_drew ?_))); (case side2 => exact HC1.out); rintro e w199 ⟨v220, rfl, ho0, hb⟩; refine ⟨_, rfl, ?_⟩; have n0_ := Aside0.mk (Kd.R_elder' (by exact HO_9.out) (Kd.R_base ho0) hb); have n1_ := Aside0.mk (Kd.R_below (by exact HO_202000.out) hb); have n2_ := Aside0.mk (Kd.R_below (by exact HO_206000.out) hb); have n3_ := Aside0.mk (Kd.R_below (by exact HO_214000.out) hb); have n4_ := Aside0.mk (Kd.R_below (by exact HO217.out) hb); have n5_ := Aside0.mk (Kd.R_lower (Kd.R_new' ho0 (Kd.R_lt (by exact HO_9.out))) (below_size (by repeat (first | (with_reducible first | exact HB.out | apply below_alloc | apply pw_below_drewN | apply below_drew1 | refine below_set ?_ GE189.out | refine below_set ?_ GE201.out | refine below_set ?_ GE205.out | refine below_set ?_ GE213.out) | exact HB.out)))); have n6_ := Aside0.mk (blk_below (g := gb189) (o := .cells #[.slice A0_0 l0_0.length c0_0] 34 (0, 0)) (by (with_reducible repeat (first | refine blk_drewN ?_ _ | refine blk_drew ?_ | refine blk_alloc ?_ _)); exact BK189.out) hb); have n7_ := Aside0.mk (blk_below (g := gb201) (o := .cells #[.slice Ao27 t197.length co27] 39 (0, 0)) (by (with_reducible repeat (first | refine blk_drewN ?_ _ | refine blk_drew ?_ | refine blk_alloc ?_ _)); exact BK201.out) hb); have n8_ := Aside0.mk (blk_below (g := gb205) (o := .cells #[.slice Ao33 t202.length co33] 39 (0, 0)) (by (with_reducible repeat (first | refine blk_drewN ?_ _ | refine blk_drew ?_ | refine blk_alloc ?_ _)); exact BK205.out) hb); have n9_ := Aside0.mk (blk_below (g := gb213) (o := .cells #[.slice Ao42 t209.length co42] 39 (0, 0)) (by (with_reducible repeat (first | refine blk_drewN ?_ _ | refine blk_drew ?_ | refine blk_alloc ?_ _)); exact BK213.out) hb); have n10_ := Aside0.mk (below_step (by repeat (first | (with_reducible first | exact HB.out | apply below_alloc | apply pw_below_drewN | apply below_drew1 | refine below_set ?_ GE189.out | refine below_set ?_ GE201.out | refine below_set ?_ GE205.out | refine below_set ?_ GE213.out) | exact HB.out)) hb); clear HO_9; clear HO_202000; clear HO_206000; clear HO_214000; clear HO217; clear BK189; clear BK201; clear BK205; clear BK213; clear HB; have HO_9 := n0_; have HO_202000 := n1_; have HO_206000 := n2_; have HO_214000 := n3_; have HO217 := n4_; have HO221 := n5_; have BK189 := n6_; have BK201 := n7_; have BK205 := n8_; have BK213 := n9_; have HB := n10_; clear n0_ n1_ n2_ n3_ n4_ n5_ n6_ n7_ n8_ n9_ n10_; (try clear hb); (try clear ho0); obtain ⟨Ao200, co200, eo200⟩ := Kd.R_slice HO221.out; subst eo200) | ((with_reducible refine gate_callee (f := 31) rfl ?_); refine goesL_ (some 60) rfl rfl Try.func31 (by kernel_rfl) rfl #[.slice Ao39 t206.length co39, .slice Ao200 t219.length co200] rfl (by (try simp only [List.map_toArray, List.map_cons, List.map_nil]); first | done | rfl) ?_; (with_reducible refine (laws_eqIntS.calls kj15 _ _ t206 _ _ t219 false _ ?side1 ?side2 ?side3 ?side4 A70.out).mono ?_); (case side1 => repeat (first | exact (Kd.R_reads' HO_9.out).2.2 | (with_reducible refine Kd.C_alloc ?_ _) | (with_reducible refine Kd.C_drewN ?_ _) | (with_reducible refine Kd.C_drew ?_))); (case side2 => exact (Kd.R_reads' HO_9.out).2.1); (case side3 => repeat (first | exact (Kd.R_reads' HO221.out).2.2 | (with_reducible refine Kd.C_alloc ?_ _) | (with_reducible refine Kd.C_drewN ?_ _) | (with_reducible refine Kd.C_drew ?_))); (case side4 => exact (Kd.R_reads' HO221.out).2.1); rintro e w' ⟨rfl, ⟨nd, rfl⟩⟩; refine ⟨_, rfl, ?_⟩))
        go_ret
        exact ⟨by first | rfl | (simp [errW_none, errW_some] <;> rfl) | (simp [*, errW_none, errW_some] <;> rfl), by repeat (first | (with_reducible first | exact HB.out | apply below_alloc | apply pw_below_drewN | apply below_drew1 | refine below_set ?_ GE189.out | refine below_set ?_ GE201.out | refine below_set ?_ GE205.out | refine below_set ?_ GE213.out) | exact HB.out)⟩
      ·replace c68 := Bool.eq_false_iff.mpr c68
       subst c68
       have H1 : (some false) = some r := by rw [if_neg (show ¬ (false = true) by decide)] at H; exact H
       clear H
       have H := H1
       clear H1
       obtain rfl := Option.some.inj H
       try go_wp2
       have n0_ := Aside0.mk (Kd.R_drew HO_9.out)
       have n1_ := Aside0.mk (Kd.R_drew HO_202000.out)
       have n2_ := Aside0.mk (Kd.R_drew HO_206000.out)
       have n3_ := Aside0.mk (Kd.R_drew HO_214000.out)
       have n4_ := Aside0.mk (blk_drew BK189.out)
       have n5_ := Aside0.mk (blk_drew BK201.out)
       have n6_ := Aside0.mk (blk_drew BK205.out)
       have n7_ := Aside0.mk (blk_drew BK213.out)
       have n8_ := Aside0.mk (below_drew1 HB.out)
       clear HO_9
       clear HO_202000
       clear HO_206000
       clear HO_214000
       clear BK189
       clear BK201
       clear BK205
       clear BK213
       clear HB
       have HO_9 := n0_
       have HO_202000 := n1_
       have HO_206000 := n2_
       have HO_214000 := n3_
       have BK189 := n4_
       have BK201 := n5_
       have BK205 := n6_
       have BK213 := n7_
       have HB := n8_
       clear n0_ n1_ n2_ n3_ n4_ n5_ n6_ n7_ n8_
       refine start_ (n := 5) (S := fun w' => w'.cell? ⟨gb205, 0, none⟩ = some (.slice Ao33 t202.length co33) ∧ w'.cell? ⟨gb189, 0, none⟩ = some (.slice A0_0 l0_0.length c0_0)) (ds := []) #[false, false, false, false, false] (by kernel_rfl) rfl rfl ⟨(blk_cell BK205.out 0).trans rfl, (blk_cell BK189.out 0).trans rfl⟩ (fun hHeld => ?_)
       generalize wc.drew = w201 at HO_9 HO_202000 HO_206000 HO_214000 BK189 BK201 BK205 BK213 HB hHeld ⊢
       refine take_ (i := 0) (N := some 52) (v := ?_) (a' := ?_) #[true, false, false, false, false] rfl rfl (by kernel_rfl) (fun _ _ _ h => h) (Or.inl ⟨by rfl, ?_⟩) hHeld ?_ ?_
       rotate_left
       ·rintro w' ⟨s0, s1⟩
        go_simp
        with_reducible rfl
       rotate_left
       ·simp only [Act.put, List.setIfInBounds_toArray, List.set_cons_zero, List.set_cons_succ, i64_w, i32_w]
        rfl
       refine take_ (i := 1) (N := some 53) (v := ?_) (a' := ?_) #[true, true, false, false, false] rfl rfl (by kernel_rfl) (fun _ _ _ h => h) (Or.inl ⟨by rfl, ?_⟩) hHeld ?_ ?_
       rotate_left
       ·rintro w' ⟨s0, s1⟩
        go_simp
        with_reducible rfl
       rotate_left
       ·simp only [Act.put, List.setIfInBounds_toArray, List.set_cons_zero, List.set_cons_succ, i64_w, i32_w]
        rfl
       refine one_ (i := 2) (N := some 54) #[true, true, true, false, false] rfl rfl (by kernel_rfl) (by decide) (fun K hK => ?_)
       refine goes_ Try.func18 (by kernel_rfl) rfl #[.agg #[.slice A0_0 l0_0.length c0_0]] (by rfl) rfl rfl (by (try simp only [List.map_toArray, List.map_cons, List.map_nil]); first | done | rfl) ?_
       with_reducible refine (laws_toDisk.calls kj15 _ _ l0_0 t215 _ ?side1 ?side2 A66.out).mono ?_
       (case side1 => repeat (first | exact (Kd.C_below HR0_0.out HB.out) | (with_reducible refine Kd.C_alloc ?_ _) | (with_reducible refine Kd.C_drewN ?_ _) | (with_reducible refine Kd.C_drew ?_)))
       (case side2 => exact HC0_0.out)
       rintro e w202 ⟨v216, rfl, ho0, hb⟩
       refine ⟨_, rfl, ?_⟩
       have n0_ := Aside0.mk (Kd.R_below (by exact HO_9.out) hb)
       have n1_ := Aside0.mk (Kd.R_elder' (by exact HO_202000.out) (Kd.R_base ho0) hb)
       have n2_ := Aside0.mk (Kd.R_elder' (by exact HO_206000.out) (Kd.R_base ho0) hb)
       have n3_ := Aside0.mk (Kd.R_elder' (by exact HO_214000.out) (Kd.R_base ho0) hb)
       have n4_ := Aside0.mk (Kd.R_lower (Kd.R_new' (Kd.R_new' (Kd.R_new' ho0 (Kd.R_lt (by exact HO_202000.out))) (Kd.R_lt (by exact HO_206000.out))) (Kd.R_lt (by exact HO_214000.out))) (below_size (by repeat (first | (with_reducible first | exact HB.out | apply below_alloc | apply pw_below_drewN | apply below_drew1 | refine below_set ?_ GE189.out | refine below_set ?_ GE201.out | refine below_set ?_ GE205.out | refine below_set ?_ GE213.out) | exact HB.out))))
       have n5_ := Aside0.mk (blk_below (g := gb189) (o := .cells #[.slice A0_0 l0_0.length c0_0] 34 (0, 0)) (by (with_reducible repeat (first | refine blk_drewN ?_ _ | refine blk_drew ?_ | refine blk_alloc ?_ _)); exact BK189.out) hb)
       have n6_ := Aside0.mk (blk_below (g := gb201) (o := .cells #[.slice Ao27 t197.length co27] 39 (0, 0)) (by (with_reducible repeat (first | refine blk_drewN ?_ _ | refine blk_drew ?_ | refine blk_alloc ?_ _)); exact BK201.out) hb)
       have n7_ := Aside0.mk (blk_below (g := gb205) (o := .cells #[.slice Ao33 t202.length co33] 39 (0, 0)) (by (with_reducible repeat (first | refine blk_drewN ?_ _ | refine blk_drew ?_ | refine blk_alloc ?_ _)); exact BK205.out) hb)
       have n8_ := Aside0.mk (blk_below (g := gb213) (o := .cells #[.slice Ao42 t209.length co42] 39 (0, 0)) (by (with_reducible repeat (first | refine blk_drewN ?_ _ | refine blk_drew ?_ | refine blk_alloc ?_ _)); exact BK213.out) hb)
       have n9_ := Aside0.mk (below_step (by repeat (first | (with_reducible first | exact HB.out | apply below_alloc | apply pw_below_drewN | apply below_drew1 | refine below_set ?_ GE189.out | refine below_set ?_ GE201.out | refine below_set ?_ GE205.out | refine below_set ?_ GE213.out) | exact HB.out)) hb)
       clear HO_9
       clear HO_202000
       clear HO_206000
       clear HO_214000
       clear BK189
       clear BK201
       clear BK205
       clear BK213
       clear HB
       have HO_9 := n0_
       have HO_202000 := n1_
       have HO_206000 := n2_
       have HO_214000 := n3_
       have HO217 := n4_
       have BK189 := n5_
       have BK201 := n6_
       have BK205 := n7_
       have BK213 := n8_
       have HB := n9_
       clear n0_ n1_ n2_ n3_ n4_ n5_ n6_ n7_ n8_ n9_
       (try clear hb)
       (try clear hb2)
       (try clear hk)
       (try clear hi)
       (try clear ho0)
       obtain ⟨Ao203, co203, eo203⟩ := Kd.R_slice HO217.out
       (first | subst eo203 | (injection eo203 with f1_ f2_ f3_; have f4_ := f1_.symm; have f5_ := f3_.symm; clear f1_ f2_ f3_; subst f4_; subst f5_))
       refine hK.out _ _ ⟨(blk_cell BK205.out 0).trans rfl, (blk_cell BK189.out 0).trans rfl⟩ (fun hHeld => ?_)
       clear hK K
       refine norm_ (a' := ?_) ?_ ?_
       rotate_left
       ·show Act.put _ (some 54) _ = _
        simp only [Act.put, List.setIfInBounds_toArray, List.set_cons_zero, List.set_cons_succ, i64_w, i32_w]
        rfl
       refine one_ (i := 3) (N := some 55) #[true, true, true, true, false] rfl rfl (by kernel_rfl) (by decide) (fun K hK => ?_)
       refine goes_ Try.func20 (by kernel_rfl) rfl #[.agg #[.slice Ao33 t202.length co33], .agg #[.slice Ao203 t215.length co203]] (by rfl) rfl rfl (by (try simp only [List.map_toArray, List.map_cons, List.map_nil]); first | done | rfl) ?_
       with_reducible refine (laws_eqDisk.calls kj15 _ _ t202 _ _ t215 false _ ?side1 ?side2 ?side3 ?side4 A67.out).mono ?_
       (case side1 => repeat (first | exact (Kd.R_reads' HO_206000.out).2.2 | (with_reducible refine Kd.C_alloc ?_ _) | (with_reducible refine Kd.C_drewN ?_ _) | (with_reducible refine Kd.C_drew ?_)))
       (case side2 => exact (Kd.R_reads' HO_206000.out).2.1)
       (case side3 => repeat (first | exact (Kd.R_reads' HO217.out).2.2 | (with_reducible refine Kd.C_alloc ?_ _) | (with_reducible refine Kd.C_drewN ?_ _) | (with_reducible refine Kd.C_drew ?_)))
       (case side4 => exact (Kd.R_reads' HO217.out).2.1)
       rintro e w204 ⟨rfl, hb⟩
       refine ⟨_, rfl, ?_⟩
       have n0_ := Aside0.mk (Kd.R_below (by exact HO_9.out) hb)
       have n1_ := Aside0.mk (Kd.R_below (by exact HO_202000.out) hb)
       have n2_ := Aside0.mk (Kd.R_below (by exact HO_206000.out) hb)
       have n3_ := Aside0.mk (Kd.R_below (by exact HO_214000.out) hb)
       have n4_ := Aside0.mk (Kd.R_below (by exact HO217.out) hb)
       have n5_ := Aside0.mk (blk_below (g := gb189) (o := .cells #[.slice A0_0 l0_0.length c0_0] 34 (0, 0)) (by (with_reducible repeat (first | refine blk_drewN ?_ _ | refine blk_drew ?_ | refine blk_alloc ?_ _)); exact BK189.out) hb)
       have n6_ := Aside0.mk (blk_below (g := gb201) (o := .cells #[.slice Ao27 t197.length co27] 39 (0, 0)) (by (with_reducible repeat (first | refine blk_drewN ?_ _ | refine blk_drew ?_ | refine blk_alloc ?_ _)); exact BK201.out) hb)
       have n7_ := Aside0.mk (blk_below (g := gb205) (o := .cells #[.slice Ao33 t202.length co33] 39 (0, 0)) (by (with_reducible repeat (first | refine blk_drewN ?_ _ | refine blk_drew ?_ | refine blk_alloc ?_ _)); exact BK205.out) hb)
       have n8_ := Aside0.mk (blk_below (g := gb213) (o := .cells #[.slice Ao42 t209.length co42] 39 (0, 0)) (by (with_reducible repeat (first | refine blk_drewN ?_ _ | refine blk_drew ?_ | refine blk_alloc ?_ _)); exact BK213.out) hb)
       have n9_ := Aside0.mk (below_step (by repeat (first | (with_reducible first | exact HB.out | apply below_alloc | apply pw_below_drewN | apply below_drew1 | refine below_set ?_ GE189.out | refine below_set ?_ GE201.out | refine below_set ?_ GE205.out | refine below_set ?_ GE213.out) | exact HB.out)) hb)
       clear HO_9
       clear HO_202000
       clear HO_206000
       clear HO_214000
       clear HO217
       clear BK189
       clear BK201
       clear BK205
       clear BK213
       clear HB
       have HO_9 := n0_
       have HO_202000 := n1_
       have HO_206000 := n2_
       have HO_214000 := n3_
       have HO217 := n4_
       have BK189 := n5_
       have BK201 := n6_
       have BK205 := n7_
       have BK213 := n8_
       have HB := n9_
       clear n0_ n1_ n2_ n3_ n4_ n5_ n6_ n7_ n8_ n9_
       (try clear hb)
       (try clear hb2)
       (try clear hk)
       (try clear hi)
       refine hK.out _ _ ⟨(blk_cell BK205.out 0).trans rfl, (blk_cell BK189.out 0).trans rfl⟩ (fun hHeld => ?_)
       clear hK K
       refine norm_ (a' := ?_) ?_ ?_
       rotate_left
       ·show Act.put _ (some 55) _ = _
        simp only [Act.put, List.setIfInBounds_toArray, List.set_cons_zero, List.set_cons_succ, i64_w, i32_w]
        rfl
       refine pure_ (i := 4) (N := some 56) (v := ?_) (a' := ?_) #[true, true, true, true, true] rfl rfl (by kernel_rfl) (fun _ _ _ h => h) (Or.inl ⟨by rfl, ?_⟩) ?_ ?_
       rotate_left
       ·intro w'
        go_simp
        with_reducible rfl
       rotate_left
       ·simp only [Act.put, List.setIfInBounds_toArray, List.set_cons_zero, List.set_cons_succ, i64_w, i32_w]
        rfl
       refine done_ (by kernel_rfl) ?_
       try go_wp2
       go_ret
       exact ⟨by first | rfl | (simp [errW_none, errW_some] <;> rfl) | (simp [*, errW_none, errW_some] <;> rfl), by repeat (first | (with_reducible first | exact HB.out | apply below_alloc | apply pw_below_drewN | apply below_drew1 | refine below_set ?_ GE189.out | refine below_set ?_ GE201.out | refine below_set ?_ GE205.out | refine below_set ?_ GE213.out) | exact HB.out)⟩

/-- THE ONE PURE STATEMENT of laws_FnExactLoseDisk. -/
def laws_FnExactLoseDisk.Pure : Prop := ∀ (l0_0 : List (S82)) (l1 : List Int), (Wide.WfList (fun y : S82 => Wide.WfStr y.f0 ∧ Wide.WfStr y.f1 ∧ (Wide.WfInt .i64) y.f2)) l0_0 → (Wide.WfList (Wide.WfInt .i64)) l1 → ∃ k, laws_FnExactLoseDisk.f k l0_0 l1 = some true

end Go.Proofs.Ytdllmlnigihpcaa.XFnExactLoseDisk
