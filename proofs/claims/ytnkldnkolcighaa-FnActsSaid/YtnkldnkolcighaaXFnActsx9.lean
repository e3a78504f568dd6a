/- What the functions of a law compute, and that their calls compute it: written by a program of this session (xprint.py), which turns the kit print at a few places. -/
import Derived.Test.YtnkldnkolcighaaXFnActsx0
import Derived.Test.YtnkldnkolcighaaXFnActsx2
import Derived.Test.YtnkldnkolcighaaXFnActsx4
import Derived.Test.YtnkldnkolcighaaXFnActsx7
import Derived.Test.YtnkldnkolcighaaXFnActsx8
namespace Go.Proofs.Ytnkldnkolcighaa.XFnActs
open Go.RowKit Go.Proofs.YtnkldnkolcighaaQ.PrintWords Go.Proofs.YtnkldnkolcighaaQ.PrintLast Go.Proofs.YtnkldnkolcighaaQ.PrintMore
attribute [local go_sem] max2_int min2_int max_two min_two max_three min_three max_four min_four str_geq str_gtr   -- for this text's walks alone
set_option linter.unusedVariables false
set_option linter.unusedSimpArgs false

/-! ### spec_CutActs: function 28 -/
def spec_CutActs.f (k : Nat) (l0_0 : List (S67)) (l1 : List (S41)) (a2 : Int) (l3 : List Int) : Option ((List (S67)) × Bool) := (spec_l01In.f a2 0 (l1.length : Int)).bind fun t210 => (if t210 = true then (if 0 ≤ a2 then (if a2 ≤ (l1.length : Int) then ((spec_DoActs.f k l0_0 (l1.take (a2 : Int).toNat)).bind fun bt215 => (if bt215.2 < a2 then (some (([] : List (S67)), false)) else ((spec_LoseDisk.f k bt215.1 l3).bind fun bt220 => (some (bt220.1, bt220.2))))) else (none)) else (none)) else (some (([] : List (S67)), false)))
theorem spec_CutActs.mono : ∀ a0 a1 a2 a3 k, LeO (spec_CutActs.f k a0 a1 a2 a3) (spec_CutActs.f (k + 1) a0 a1 a2 a3) := by
 intro a0 a1 a2 a3 k
 unfold spec_CutActs.f
 repeat' first
   | (with_reducible exact LeO.refl _)
   | (with_reducible refine LeO.ite ?_ ?_)
   | (with_reducible refine LeO.bind ?_ (fun _ => ?_))
   | exact spec_DoActs.mono _ _ _
   | exact spec_LoseDisk.mono _ _ _
   | exact LeO.none _
   | refine LeO.ite ?_ ?_
   | refine LeO.bind ?_ (fun _ => ?_)
def spec_CutActs.T3 : Bool × List (List Nat × List Nat) := (true, [([], []), ([], []), ([], []), ([1, 2], [1, 2]), ([0, 3], [0, 3]), ([4], [4]), ([5], [5]), ([5], [5]), ([], []), ([8, 6, 4, 0, 1, 2, 3, 4, 5, 6, 8], [6, 8]), ([7, 9, 0, 1, 2, 3, 4, 5, 6, 7, 8, 9], [7])])
def spec_CutActs.B3 : List Nat := [0, 0, 0, 6, 15, 31, 63, 63, 0, 383, 1023]
theorem spec_CutActs.tab3 : rtab .any (opsOf Try.f28 3) = spec_CutActs.T3 := by kernel_rfl
theorem spec_CutActs.bits3 : waitsOk spec_CutActs.T3.2 spec_CutActs.B3 = true := by kernel_rfl
set_option maxHeartbeats 8000000 in
set_option maxRecDepth 100000 in
theorem spec_CutActs.calls (k : Nat) (A0_0 : Option Addr) (c0_0 : Nat) (l0_0 : List (S67)) (A1 : Option Addr) (c1 : Nat) (l1 : List (S41)) (a2 : Int) (A3 : Option Addr) (c3 : Nat) (l3 : List Int) (r1 : List (S67)) (r2 : Bool) (w : World) (hr0_0 : Kd.C k67 w A0_0 l0_0.length l0_0) (hc0_0 : l0_0.length ≤ c0_0) (hr1 : Kd.C k41 w A1 l1.length l1) (hc1 : l1.length ≤ c1) (hr3 : Kd.C (Kd.int .i64) w A3 l3.length l3) (hc3 : l3.length ≤ c3) (h : spec_CutActs.f k l0_0 l1 a2 l3 = some (r1, r2)) :
  Calls Try.prog 28 #[.agg #[.slice A0_0 l0_0.length c0_0], .slice A1 l1.length c1, .int .i64 a2, .slice A3 l3.length c3] w fun e w' => ∃ v0_ : Value, e = .returned (.tuple #[.agg #[v0_], .bool r2]) ∧ Kd.R k67 67 w' w.heap.size (fun _ => True) v0_ r1 ∧ Below w.heap.size w w' := by
 have hu30 := Try.underlying30
 have HR0_0 := AM hr0_0
 have HC0_0 := AM hc0_0
 clear hr0_0 hc0_0
 have HR1 := AM hr1
 have HC1 := AM hc1
 clear hr1 hc1
 have HR3 := AM hr3
 have HC3 := AM hc3
 clear hr3 hc3
 have HB := AM (Below.refl w.heap.size w)
 have H : ((spec_l01In.f a2 0 (l1.length : Int)).bind fun t210 => (if t210 = true then (if 0 ≤ a2 then (if a2 ≤ (l1.length : Int) then ((spec_DoActs.f k l0_0 (l1.take (a2 : Int).toNat)).bind fun bt215 => (if bt215.2 < a2 then (some (([] : List (S67)), false)) else ((spec_LoseDisk.f k bt215.1 l3).bind fun bt220 => (some (bt220.1, bt220.2))))) else (none)) else (none)) else (some (([] : List (S67)), false)))) = some (r1, r2) := h
 clear h
 replace H := bm H
 obtain ⟨t210, A50, H⟩ := H
 replace H : (if t210 = true then (if 0 ≤ a2 then (if a2 ≤ (l1.length : Int) then ((spec_DoActs.f k l0_0 (l1.take (a2 : Int).toNat)).bind fun bt215 => (if bt215.2 < a2 then (some (([] : List (S67)), false)) else ((spec_LoseDisk.f k bt215.1 l3).bind fun bt220 => (some (bt220.1, bt220.2))))) else (none)) else (none)) else (some (([] : List (S67)), false))) = some (r1, r2) := H
 have A5 := AM A50
 clear A50
 by_cases c6 : t210 = true
 ·subst c6
  have H1 : (if 0 ≤ a2 then (if a2 ≤ (l1.length : Int) then ((spec_DoActs.f k l0_0 (l1.take (a2 : Int).toNat)).bind fun bt215 => (if bt215.2 < a2 then (some (([] : List (S67)), false)) else ((spec_LoseDisk.f k bt215.1 l3).bind fun bt220 => (some (bt220.1, bt220.2))))) else (none)) else (none)) = some (r1, r2) := by rw [if_pos rfl] at H; exact H
  clear H
  have H := H1
  clear H1
  by_cases c7 : 0 ≤ a2
  ·rw [if_pos c7] at H
   have c7b0 := eq_true c7
   have c7b1 : decide (0 ≤ a2) = true := decide_eq_true c7
   clear c7
   by_cases c8 : a2 ≤ (l1.length : Int)
   ·rw [if_pos c8] at H
    have c8b0 := eq_true c8
    have c8b1 : decide (a2 ≤ (l1.length : Int)) = true := decide_eq_true c8
    clear c8
    obtain ⟨y211, hy211⟩ : ∃ y_ : List (S41), y_ = (l1.take (a2 : Int).toNat) := ⟨_, rfl⟩
    replace H : ((spec_DoActs.f k l0_0 y211).bind fun bt215 => (if bt215.2 < a2 then (some (([] : List (S67)), false)) else ((spec_LoseDisk.f k bt215.1 l3).bind fun bt220 => (some (bt220.1, bt220.2))))) = some (r1, r2) := by first | (rw [hy211]; with_reducible exact H) | (have H2_ := (Option.bind_some _ _).symm.trans H; rw [hy211]; with_reducible exact H2_) | (have H2_ := (Option.bind_some _ _).symm.trans H; with_reducible exact H2_) | with_reducible exact H | (rw [hy211]; exact H) | exact H
    have Ny211 := AM hy211
    clear hy211
    replace H := bm H
    obtain ⟨⟨t215, t218⟩, A90, H⟩ := H
    replace H : (if t218 < a2 then (some (([] : List (S67)), false)) else ((spec_LoseDisk.f k t215 l3).bind fun bt220 => (some (bt220.1, bt220.2)))) = some (r1, r2) := H
    have A9 := AM A90
    clear A90
    by_cases c10 : t218 < a2
    ·rw [if_pos c10] at H
     have c10b0 : decide (t218 < a2) = true := decide_eq_true c10
     clear c10
     simp only [Option.some.injEq, Prod.mk.injEq] at H
     obtain ⟨rfl, rfl⟩ := H
     go_enter Try.func28, Try.ntmps28
     try go_wp2_with (first | ((with_reducible refine gd 4 rfl ?_); refine bx (N := 4) (cs := #[.slice A0_0 l0_0.length c0_0]) (t := 30) ?_; intro gb208 hg w11 hbox hb; have BK208 := AM (hbox); have GW208 := AM (bs hg HB); have GE208 := AM (bs hg HB); replace HB := bq HB hb; clear hb hbox hg) | ((with_reducible refine gd 8 rfl ?_); refine bx (N := 8) (cs := #[.slice none 0 0]) (t := 30) ?_; intro gb209 hg w12 hbox hb; have BK209 := AM (hbox); have GW209 := AM (bt hg hS); have GE209 := AM (bt hg hS); replace HB := AM (below_step (hS) hb); have NB208_209 := AM (nl hg (bk BK208)); have NB209_208 := AM (ng hg (bk BK208)); replace BK208 := bw BK208 hb; clear hb hbox hg) | ((with_reducible refine gc 55 rfl ?_); refine gl 15 Try.func55 #[.int .i64 a2, .int .i64 0, .int .i64 (l1.length : Int)] ?_; (with_reducible refine (spec_l01In.calls a2 0 (l1.length : Int) true _ A5.out).mono ?_); rintro e w' ⟨rfl, ⟨nd, rfl⟩⟩; refine ⟨_, rfl, ?_⟩; (try (rw [drewN_self w12]; generalize hq_ : World.drewN w12 _ = w12; have n0_ : Aside0 (w12.heap[gb208]? = some (.cells #[.slice A0_0 l0_0.length c0_0] 30 (0, 0))) := ⟨by rw [← hq_]; exact (bk BK208)⟩; have n1_ : Aside0 (w12.heap[gb209]? = some (.cells #[.slice none 0 0] 30 (0, 0))) := ⟨by rw [← hq_]; exact (bk BK209)⟩; have n2_ : Aside0 (Below w.heap.size w w12) := ⟨by rw [← hq_]; exact (hS)⟩; clear BK208 BK209 HB hq_; have BK208 := n0_; have BK209 := n1_; have HB := n2_; clear n0_ n1_ n2_))))
     replace BK208 := AM (blk_drew BK208.out)
     replace BK209 := AM (blk_drew BK209.out)
     replace HB := AM (below_drew1 HB.out)
     have q14 : (a2 : Int) ≤ ((l1.length : Int) : Int) := od
     obtain ⟨i014, hi014, _, hsz14, _⟩ := info_parts info41
     have hroom14 : l1.length ≤ c1 := HC1.out
     have hC14 : Kd.C k41 _ A1 l1.length l1 := HR1.out
     have hcut14 := cut_to (P := Try.prog) 49 41 .i64 Try.underlying49 hi014 A1 l1.length c1 a2 (od) q14 hroom14
     have hr14 := Kd.C_take (m := (a2 : Int).toNat) hC14 (by omega)
     have hy14 : y211.length = (a2 : Int).toNat := (by rw [Ny211.out, List.length_take]; omega)
     rw [← Ny211.out] at hr14
     rw [← hy14] at hcut14
     have HR214 := AM hr14
     have HC214 := AM (show y211.length ≤ c1 from by omega)
     clear hr14 hC14 hroom14 hi014 hsz14
     have KY14 := AM hy14
     clear hy14
     replace q14 := eq_true q14
     refine sr 11 (fun w' => w'.cell? ⟨gb208, 0, none⟩ = some (.slice A0_0 l0_0.length c0_0)) [] (bc BK208 0) (fun hHeld => ?_); refine with_tabW spec_CutActs.tab3 spec_CutActs.bits3 (fun HT_ HW_ => ?_)
     generalize w12.drew = w13 at BK208 BK209 HB HR214 hHeld ⊢
     refine pt 1 20 ?_; refine pt 2 21 ?_; refine pt 3 22 ?_; refine tt 0 19 ?_
     refine join_ (σ := Value × Nat) 2 #[true, true, true, true, true, true, true, true, true, false, false] (fun s_ => [(23, .tuple #[.agg #[s_.1], .int .i64 t218]), (10, .pointer (some ⟨s_.2, 0, none⟩)), (18, .tuple #[.agg #[s_.1], .int .i64 t218]), (24, .agg #[s_.1]), (25, .int .i64 t218)]) (fun s_ w' => (w'.cell? ⟨gb208, 0, none⟩ = some (.slice A0_0 l0_0.length c0_0)) ∧ (Kd.R k67 67 w' w.heap.size (fun _ => True) s_.1 t215) ∧ (w'.heap[gb208]? = some (.cells #[.slice A0_0 l0_0.length c0_0] 30 (0, 0))) ∧ (w'.heap[gb209]? = some (.cells #[.slice none 0 0] 30 (0, 0))) ∧ (w'.heap[s_.2]? = some (.cells #[.slice none 0 0] 30 (0, 0))) ∧ (w.heap.size ≤ s_.2) ∧ (w.heap.size ≤ s_.2) ∧ (gb208 ≠ s_.2) ∧ (s_.2 ≠ gb208) ∧ (gb209 ≠ s_.2) ∧ (s_.2 ≠ gb209) ∧ (Below w.heap.size w w')) ?_ ?_
     rotate_left
     ·intro hCont
      refine two_ (i := 4) (j := 8) (Ni := some 23) (Nj := some 10) #[true, true, true, true, true, false, false, false, false, false, false] #[true, true, true, true, false, false, false, false, true, false, false] rfl rfl rfl rfl (two_of HT_.out (by kernel_rfl)) (by decide) (by decide) (fun K hK => ?_) (fun K hK => ?_)
      ·skip
       refine goes_ Try.func23 (by kernel_rfl) rfl #[.agg #[.slice A0_0 l0_0.length c0_0], .slice A1 y211.length c1] (by rfl) rfl rfl am ?_
       with_reducible refine (spec_DoActs.calls k _ _ l0_0 _ _ y211 t215 t218 _ ?side1 ?side2 ?side3 ?side4 A9.out).mono ?_
       (case side1 => repeat (first | exact (Kd.C_below HR0_0.out HB.out) | (with_reducible first | refine cA ?_ _ | refine cN ?_ _ | refine cD ?_)))
       (case side2 => exact HC0_0.out)
       (case side3 => repeat (first | exact (Kd.C_below HR214.out HB.out) | (with_reducible first | refine cA ?_ _ | refine cN ?_ _ | refine cD ?_)))
       (case side4 => exact HC214.out)
       rintro e w15 ⟨v216, rfl, ho0, hb⟩
       refine ⟨_, rfl, ?_⟩
       have HO217 := AM (Kd.R_lower ho0 (below_size (hS)))
       replace BK208 := bw BK208 hb
       replace BK209 := bw BK209 hb
       replace HB := AM (below_step (hS) hb)
       (try clear hb)
       (try clear hb2)
       (try clear hk)
       (try clear hi)
       (try clear ho0)
       refine hK.out _ _ (bc BK208 0) (fun hHeld => ?_)
       clear hK K
       refine nr ?_
       refine pt 5 18 ?_; refine pt 6 24 ?_; refine pt 7 25 ?_
       refine ot 8 (some 10) fun K hK => ?_
       refine box_step ?hg (N := 10) ?hd (cs := #[.slice none 0 0]) (t := 30) ?hr ?_; (case hd => rfl); (case hg => rfl); (case hr => first | (go_simp; done) | (go_simp; rfl))
       intro gb219 hg w16 hbox hb
       replace HO217 := AM (Kd.R_below (by exact HO217.out) hb)
       have BK219 := AM (hbox)
       have GW219 := AM (bt hg hS)
       have GE219 := AM (bt hg hS)
       replace HB := AM (below_step (hS) hb)
       have NB208_219 := AM (nl hg (bk BK208))
       have NB219_208 := AM (ng hg (bk BK208))
       replace BK208 := bw BK208 hb
       have NB209_219 := AM (nl hg (bk BK209))
       have NB219_209 := AM (ng hg (bk BK209))
       replace BK209 := bw BK209 hb
       clear hb hbox hg
       refine hK.out _ _ (bc BK208 0) (fun hHeld => ?_)
       clear hK K
       refine nr ?_
       exact norm_ (by simp only [putAll, Act.put, qT, q0, qS]) (hCont (v216, gb219) _ ⟨hHeld, (by exact HO217.out), (bk BK208), (bk BK209), (bk BK219), GW219.out, GE219.out, NB208_219.out, NB219_208.out, NB209_219.out, NB219_209.out, (hS)⟩)
      skip
      refine box_step ?hg (N := 10) ?hd (cs := #[.slice none 0 0]) (t := 30) ?hr ?_; (case hd => rfl); (case hg => rfl); (case hr => first | (go_simp; done) | (go_simp; rfl))
      intro gb219 hg w15 hbox hb
      have BK219 := AM (hbox)
      have GW219 := AM (bt hg hS)
      have GE219 := AM (bt hg hS)
      replace HB := AM (below_step (hS) hb)
      have NB208_219 := AM (nl hg (bk BK208))
      have NB219_208 := AM (ng hg (bk BK208))
      replace BK208 := bw BK208 hb
      have NB209_219 := AM (nl hg (bk BK209))
      have NB219_209 := AM (ng hg (bk BK209))
      replace BK209 := bw BK209 hb
      clear hb hbox hg
      refine hK.out _ _ (bc BK208 0) (fun hHeld => ?_)
      clear hK K
      refine nr ?_
      refine ot 4 (some 23) fun K hK => ?_
      refine goes_ Try.func23 (by kernel_rfl) rfl #[.agg #[.slice A0_0 l0_0.length c0_0], .slice A1 y211.length c1] (by rfl) rfl rfl am ?_
      with_reducible refine (spec_DoActs.calls k _ _ l0_0 _ _ y211 t215 t218 _ ?side1 ?side2 ?side3 ?side4 A9.out).mono ?_
      (case side1 => repeat (first | exact (Kd.C_below HR0_0.out HB.out) | (with_reducible first | refine cA ?_ _ | refine cN ?_ _ | refine cD ?_)))
      (case side2 => exact HC0_0.out)
      (case side3 => repeat (first | exact (Kd.C_below HR214.out HB.out) | (with_reducible first | refine cA ?_ _ | refine cN ?_ _ | refine cD ?_)))
      (case side4 => exact HC214.out)
      rintro e w16 ⟨v216, rfl, ho0, hb⟩
      refine ⟨_, rfl, ?_⟩
      have HO217 := AM (Kd.R_lower ho0 (below_size (hS)))
      replace BK208 := bw BK208 hb
      replace BK209 := bw BK209 hb
      replace BK219 := bw BK219 hb
      replace HB := AM (below_step (hS) hb)
      (try clear hb)
      (try clear hb2)
      (try clear hk)
      (try clear hi)
      (try clear ho0)
      refine hK.out _ _ (bc BK208 0) (fun hHeld => ?_)
      clear hK K
      refine nr ?_
      refine pt 5 18 ?_; refine pt 6 24 ?_; refine pt 7 25 ?_
      exact norm_ (by simp only [putAll, Act.put, qT, q0, qS]) (hCont (v216, gb219) _ ⟨hHeld, (by exact HO217.out), (bk BK208), (bk BK209), (bk BK219), GW219.out, GE219.out, NB208_219.out, NB219_208.out, NB209_219.out, NB219_209.out, (hS)⟩)
     rintro ⟨v216, gb219⟩ w17 ⟨hS_, h0_, h1_, h2_, h3_, h4_, h5_, h6_, h7_, h8_, h9_, h10_⟩
     have n0_ : Aside0 (Kd.R k67 67 w17 w.heap.size (fun _ => True) v216 t215) := ⟨h0_⟩
     have n1_ : Aside0 (w17.heap[gb208]? = some (.cells #[.slice A0_0 l0_0.length c0_0] 30 (0, 0))) := ⟨h1_⟩
     have n2_ : Aside0 (w17.heap[gb209]? = some (.cells #[.slice none 0 0] 30 (0, 0))) := ⟨h2_⟩
     have n3_ : Aside0 (w17.heap[gb219]? = some (.cells #[.slice none 0 0] 30 (0, 0))) := ⟨h3_⟩
     have n4_ : Aside0 (w.heap.size ≤ gb219) := ⟨h4_⟩
     have n5_ : Aside0 (w.heap.size ≤ gb219) := ⟨h5_⟩
     have n6_ : Aside0 (gb208 ≠ gb219) := ⟨h6_⟩
     have n7_ : Aside0 (gb219 ≠ gb208) := ⟨h7_⟩
     have n8_ : Aside0 (gb209 ≠ gb219) := ⟨h8_⟩
     have n9_ : Aside0 (gb219 ≠ gb209) := ⟨h9_⟩
     have n10_ : Aside0 (Below w.heap.size w w17) := ⟨h10_⟩
     clear BK208
     clear BK209
     clear HB
     clear h0_ h1_ h2_ h3_ h4_ h5_ h6_ h7_ h8_ h9_ h10_
     have HO217 := n0_
     have BK208 := n1_
     have BK209 := n2_
     have BK219 := n3_
     have GW219 := n4_
     have GE219 := n5_
     have NB208_219 := n6_
     have NB219_208 := n7_
     have NB209_219 := n8_
     have NB219_209 := n9_
     have HB := n10_
     clear n0_ n1_ n2_ n3_ n4_ n5_ n6_ n7_ n8_ n9_ n10_
     have hHeld : w17.cell? ⟨gb208, 0, none⟩ = some (.slice A0_0 l0_0.length c0_0) := hS_
     obtain ⟨Ao18, co18, eo18⟩ := Kd.R_slice HO217.out
     (first | subst eo18 | (injection eo18 with f1_ f2_ f3_; have f4_ := f1_.symm; have f5_ := f3_.symm; clear f1_ f2_ f3_; subst f4_; subst f5_))
     refine norm_ (a' := ?_) ?_ ?_
     rotate_left
     ·simp only [putAll, Act.put, qT, q0, qS]
      rfl
     refine ot 9 none fun K hK => ?_
     have hs19 : w17.cell? ⟨gb219, 0, none⟩ = some (.slice none 0 0) := bc BK219 0
     have hfs19 := bz BK219 0
     have hns19_0 := NB208_219.out
     have hns19_1 := NB209_219.out
     have hms19_0 := NB219_208.out
     have hms19_1 := NB219_209.out
     refine sk ?_
     refine hK.out _ _ (((cell_far (p := ⟨gb219, _, none⟩) NB208_219.out _).trans (hHeld))) (fun hHeld => ?_)
     clear hK K
     refine pt 10 11 ?_
     refine dn ?_
     have hnb20 := NB209_208.out
     have hnc20 := NB208_209.out
     have hnb21 := NB209_219.out
     have hnc21 := NB219_209.out
     have hcz22_0 := bv BK209 0 (.slice none 0 0)
     have hfz22_0 := bz BK209 0
     try go_wp2
     refine bodyPost_ret (results_ct rfl _ _ gb209 30 #[.slice none 0 0] (0, 0) _ rfl (bp #[.slice none 0 0] 0) Try.underlying30 rfl (by kernel_rfl)) rfl ?_
     exact ⟨_, er, by first | exact Kd.R_nil _ _ _ _ _ | exact Kd.N_nil _ _ _ _ _ | exact Kd.V_nil _ _ _ _ _ | exact Kd.Q_nil _ _ _ _ _ | exact Kd.S_nil _ _ _ _ _, hS⟩
    rw [if_neg c10] at H
    have c10b0 : decide (t218 < a2) = false := decide_eq_false c10
    clear c10
    replace H := bm H
    obtain ⟨⟨t220, t223⟩, A230, H⟩ := H
    replace H : (some (t220, t223)) = some (r1, r2) := H
    have A23 := AM A230
    clear A230
    simp only [Option.some.injEq, Prod.mk.injEq] at H
    obtain ⟨rfl, rfl⟩ := H
    go_enter Try.func28, Try.ntmps28
    try go_wp2_with (first | ((with_reducible refine gd 4 rfl ?_); refine bx (N := 4) (cs := #[.slice A0_0 l0_0.length c0_0]) (t := 30) ?_; intro gb208 hg w24 hbox hb; have BK208 := AM (hbox); have GW208 := AM (bs hg HB); have GE208 := AM (bs hg HB); replace HB := bq HB hb; clear hb hbox hg) | ((with_reducible refine gd 8 rfl ?_); refine bx (N := 8) (cs := #[.slice none 0 0]) (t := 30) ?_; intro gb209 hg w25 hbox hb; have BK209 := AM (hbox); have GW209 := AM (bt hg hS); have GE209 := AM (bt hg hS); replace HB := AM (below_step (hS) hb); have NB208_209 := AM (nl hg (bk BK208)); have NB209_208 := AM (ng hg (bk BK208)); replace BK208 := bw BK208 hb; clear hb hbox hg) | ((with_reducible refine gc 55 rfl ?_); refine gl 15 Try.func55 #[.int .i64 a2, .int .i64 0, .int .i64 (l1.length : Int)] ?_; (with_reducible refine (spec_l01In.calls a2 0 (l1.length : Int) true _ A5.out).mono ?_); rintro e w' ⟨rfl, ⟨nd, rfl⟩⟩; refine ⟨_, rfl, ?_⟩; (try (rw [drewN_self w25]; generalize hq_ : World.drewN w25 _ = w25; have n0_ : Aside0 (w25.heap[gb208]? = some (.cells #[.slice A0_0 l0_0.length c0_0] 30 (0, 0))) := ⟨by rw [← hq_]; exact (bk BK208)⟩; have n1_ : Aside0 (w25.heap[gb209]? = some (.cells #[.slice none 0 0] 30 (0, 0))) := ⟨by rw [← hq_]; exact (bk BK209)⟩; have n2_ : Aside0 (Below w.heap.size w w25) := ⟨by rw [← hq_]; exact (hS)⟩; clear BK208 BK209 HB hq_; have BK208 := n0_; have BK209 := n1_; have HB := n2_; clear n0_ n1_ n2_))))
    replace BK208 := AM (blk_drew BK208.out)
    replace BK209 := AM (blk_drew BK209.out)
    replace HB := AM (below_drew1 HB.out)
    have q27 : (a2 : Int) ≤ ((l1.length : Int) : Int) := od
    obtain ⟨i027, hi027, _, hsz27, _⟩ := info_parts info41
    have hroom27 : l1.length ≤ c1 := HC1.out
    have hC27 : Kd.C k41 _ A1 l1.length l1 := HR1.out
    have hcut27 := cut_to (P := Try.prog) 49 41 .i64 Try.underlying49 hi027 A1 l1.length c1 a2 (od) q27 hroom27
    have hr27 := Kd.C_take (m := (a2 : Int).toNat) hC27 (by omega)
    have hy27 : y211.length = (a2 : Int).toNat := (by rw [Ny211.out, List.length_take]; omega)
    rw [← Ny211.out] at hr27
    rw [← hy27] at hcut27
    have HR214 := AM hr27
    have HC214 := AM (show y211.length ≤ c1 from by omega)
    clear hr27 hC27 hroom27 hi027 hsz27
    have KY27 := AM hy27
    clear hy27
    replace q27 := eq_true q27
    refine sr 11 (fun w' => w'.cell? ⟨gb208, 0, none⟩ = some (.slice A0_0 l0_0.length c0_0)) [] (bc BK208 0) (fun hHeld => ?_); refine with_tabW spec_CutActs.tab3 spec_CutActs.bits3 (fun HT_ HW_ => ?_)
    generalize w25.drew = w26 at BK208 BK209 HB HR214 hHeld ⊢
    refine pt 1 20 ?_; refine pt 2 21 ?_; refine pt 3 22 ?_; refine tt 0 19 ?_
    refine join_ (σ := Value × Nat) 2 #[true, true, true, true, true, true, true, true, true, false, false] (fun s_ => [(23, .tuple #[.agg #[s_.1], .int .i64 t218]), (10, .pointer (some ⟨s_.2, 0, none⟩)), (18, .tuple #[.agg #[s_.1], .int .i64 t218]), (24, .agg #[s_.1]), (25, .int .i64 t218)]) (fun s_ w' => (w'.cell? ⟨gb208, 0, none⟩ = some (.slice A0_0 l0_0.length c0_0)) ∧ (Kd.R k67 67 w' w.heap.size (fun _ => True) s_.1 t215) ∧ (w'.heap[gb208]? = some (.cells #[.slice A0_0 l0_0.length c0_0] 30 (0, 0))) ∧ (w'.heap[gb209]? = some (.cells #[.slice none 0 0] 30 (0, 0))) ∧ (w'.heap[s_.2]? = some (.cells #[.slice none 0 0] 30 (0, 0))) ∧ (w.heap.size ≤ s_.2) ∧ (w.heap.size ≤ s_.2) ∧ (gb208 ≠ s_.2) ∧ (s_.2 ≠ gb208) ∧ (gb209 ≠ s_.2) ∧ (s_.2 ≠ gb209) ∧ (Below w.heap.size w w')) ?_ ?_
    rotate_left
    ·intro hCont
     refine two_ (i := 4) (j := 8) (Ni := some 23) (Nj := some 10) #[true, true, true, true, true, false, false, false, false, false, false] #[true, true, true, true, false, false, false, false, true, false, false] rfl rfl rfl rfl (two_of HT_.out (by kernel_rfl)) (by decide) (by decide) (fun K hK => ?_) (fun K hK => ?_)
     ·skip
      refine goes_ Try.func23 (by kernel_rfl) rfl #[.agg #[.slice A0_0 l0_0.length c0_0], .slice A1 y211.length c1] (by rfl) rfl rfl am ?_
      with_reducible refine (spec_DoActs.calls k _ _ l0_0 _ _ y211 t215 t218 _ ?side1 ?side2 ?side3 ?side4 A9.out).mono ?_
      (case side1 => repeat (first | exact (Kd.C_below HR0_0.out HB.out) | (with_reducible first | refine cA ?_ _ | refine cN ?_ _ | refine cD ?_)))
      (case side2 => exact HC0_0.out)
      (case side3 => repeat (first | exact (Kd.C_below HR214.out HB.out) | (with_reducible first | refine cA ?_ _ | refine cN ?_ _ | refine cD ?_)))
      (case side4 => exact HC214.out)
      rintro e w28 ⟨v216, rfl, ho0, hb⟩
      refine ⟨_, rfl, ?_⟩
      have HO217 := AM (Kd.R_lower ho0 (below_size (hS)))
      replace BK208 := bw BK208 hb
      replace BK209 := bw BK209 hb
      replace HB := AM (below_step (hS) hb)
      (try clear hb)
      (try clear hb2)
      (try clear hk)
      (try clear hi)
      (try clear ho0)
      refine hK.out _ _ (bc BK208 0) (fun hHeld => ?_)
      clear hK K
      refine nr ?_
      refine pt 5 18 ?_; refine pt 6 24 ?_; refine pt 7 25 ?_
      refine ot 8 (some 10) fun K hK => ?_
      refine box_step ?hg (N := 10) ?hd (cs := #[.slice none 0 0]) (t := 30) ?hr ?_; (case hd => rfl); (case hg => rfl); (case hr => first | (go_simp; done) | (go_simp; rfl))
      intro gb219 hg w29 hbox hb
      replace HO217 := AM (Kd.R_below (by exact HO217.out) hb)
      have BK219 := AM (hbox)
      have GW219 := AM (bt hg hS)
      have GE219 := AM (bt hg hS)
      replace HB := AM (below_step (hS) hb)
      have NB208_219 := AM (nl hg (bk BK208))
      have NB219_208 := AM (ng hg (bk BK208))
      replace BK208 := bw BK208 hb
      have NB209_219 := AM (nl hg (bk BK209))
      have NB219_209 := AM (ng hg (bk BK209))
      replace BK209 := bw BK209 hb
      clear hb hbox hg
      refine hK.out _ _ (bc BK208 0) (fun hHeld => ?_)
      clear hK K
      refine nr ?_
      exact norm_ (by simp only [putAll, Act.put, qT, q0, qS]) (hCont (v216, gb219) _ ⟨hHeld, (by exact HO217.out), (bk BK208), (bk BK209), (bk BK219), GW219.out, GE219.out, NB208_219.out, NB219_208.out, NB209_219.out, NB219_209.out, (hS)⟩)
     skip
     refine box_step ?hg (N := 10) ?hd (cs := #[.slice none 0 0]) (t := 30) ?hr ?_; (case hd => rfl); (case hg => rfl); (case hr => first | (go_simp; done) | (go_simp; rfl))
     intro gb219 hg w28 hbox hb
     have BK219 := AM (hbox)
     have GW219 := AM (bt hg hS)
     have GE219 := AM (bt hg hS)
     replace HB := AM (below_step (hS) hb)
     have NB208_219 := AM (nl hg (bk BK208))
     have NB219_208 := AM (ng hg (bk BK208))
     replace BK208 := bw BK208 hb
     have NB209_219 := AM (nl hg (bk BK209))
     have NB219_209 := AM (ng hg (bk BK209))
     replace BK209 := bw BK209 hb
     clear hb hbox hg
     refine hK.out _ _ (bc BK208 0) (fun hHeld => ?_)
     clear hK K
     refine nr ?_
     refine ot 4 (some 23) fun K hK => ?_
     refine goes_ Try.func23 (by kernel_rfl) rfl #[.agg #[.slice A0_0 l0_0.length c0_0], .slice A1 y211.length c1] (by rfl) rfl rfl am ?_
     with_reducible refine (spec_DoActs.calls k _ _ l0_0 _ _ y211 t215 t218 _ ?side1 ?side2 ?side3 ?side4 A9.out).mono ?_
     (case side1 => repeat (first | exact (Kd.C_below HR0_0.out HB.out) | (with_reducible first | refine cA ?_ _ | refine cN ?_ _ | refine cD ?_)))
     (case side2 => exact HC0_0.out)
     (case side3 => repeat (first | exact (Kd.C_below HR214.out HB.out) | (with_reducible first | refine cA ?_ _ | refine cN ?_ _ | refine cD ?_)))
     (case side4 => exact HC214.out)
     rintro e w29 ⟨v216, rfl, ho0, hb⟩
     refine ⟨_, rfl, ?_⟩
     have HO217 := AM (Kd.R_lower ho0 (below_size (hS)))
     replace BK208 := bw BK208 hb
     replace BK209 := bw BK209 hb
     replace BK219 := bw BK219 hb
     replace HB := AM (below_step (hS) hb)
     (try clear hb)
     (try clear hb2)
     (try clear hk)
     (try clear hi)
     (try clear ho0)
     refine hK.out _ _ (bc BK208 0) (fun hHeld => ?_)
     clear hK K
     refine nr ?_
     refine pt 5 18 ?_; refine pt 6 24 ?_; refine pt 7 25 ?_
     exact norm_ (by simp only [putAll, Act.put, qT, q0, qS]) (hCont (v216, gb219) _ ⟨hHeld, (by exact HO217.out), (bk BK208), (bk BK209), (bk BK219), GW219.out, GE219.out, NB208_219.out, NB219_208.out, NB209_219.out, NB219_209.out, (hS)⟩)
    rintro ⟨v216, gb219⟩ w30 ⟨hS_, h0_, h1_, h2_, h3_, h4_, h5_, h6_, h7_, h8_, h9_, h10_⟩
    have n0_ : Aside0 (Kd.R k67 67 w30 w.heap.size (fun _ => True) v216 t215) := ⟨h0_⟩
    have n1_ : Aside0 (w30.heap[gb208]? = some (.cells #[.slice A0_0 l0_0.length c0_0] 30 (0, 0))) := ⟨h1_⟩
    have n2_ : Aside0 (w30.heap[gb209]? = some (.cells #[.slice none 0 0] 30 (0, 0))) := ⟨h2_⟩
    have n3_ : Aside0 (w30.heap[gb219]? = some (.cells #[.slice none 0 0] 30 (0, 0))) := ⟨h3_⟩
    have n4_ : Aside0 (w.heap.size ≤ gb219) := ⟨h4_⟩
    have n5_ : Aside0 (w.heap.size ≤ gb219) := ⟨h5_⟩
    have n6_ : Aside0 (gb208 ≠ gb219) := ⟨h6_⟩
    have n7_ : Aside0 (gb219 ≠ gb208) := ⟨h7_⟩
    have n8_ : Aside0 (gb209 ≠ gb219) := ⟨h8_⟩
    have n9_ : Aside0 (gb219 ≠ gb209) := ⟨h9_⟩
    have n10_ : Aside0 (Below w.heap.size w w30) := ⟨h10_⟩
    clear BK208
    clear BK209
    clear HB
    clear h0_ h1_ h2_ h3_ h4_ h5_ h6_ h7_ h8_ h9_ h10_
    have HO217 := n0_
    have BK208 := n1_
    have BK209 := n2_
    have BK219 := n3_
    have GW219 := n4_
    have GE219 := n5_
    have NB208_219 := n6_
    have NB219_208 := n7_
    have NB209_219 := n8_
    have NB219_209 := n9_
    have HB := n10_
    clear n0_ n1_ n2_ n3_ n4_ n5_ n6_ n7_ n8_ n9_ n10_
    have hHeld : w30.cell? ⟨gb208, 0, none⟩ = some (.slice A0_0 l0_0.length c0_0) := hS_
    obtain ⟨Ao31, co31, eo31⟩ := Kd.R_slice HO217.out
    (first | subst eo31 | (injection eo31 with f1_ f2_ f3_; have f4_ := f1_.symm; have f5_ := f3_.symm; clear f1_ f2_ f3_; subst f4_; subst f5_))
    refine norm_ (a' := ?_) ?_ ?_
    rotate_left
    ·simp only [putAll, Act.put, qT, q0, qS]
     rfl
    refine ot 9 none fun K hK => ?_
    have hs32 : w30.cell? ⟨gb219, 0, none⟩ = some (.slice none 0 0) := bc BK219 0
    have hfs32 := bz BK219 0
    have hns32_0 := NB208_219.out
    have hns32_1 := NB209_219.out
    have hms32_0 := NB219_208.out
    have hms32_1 := NB219_209.out
    refine sk ?_
    refine hK.out _ _ (((cell_far (p := ⟨gb219, _, none⟩) NB208_219.out _).trans (hHeld))) (fun hHeld => ?_)
    clear hK K
    refine pt 10 11 ?_
    refine dn ?_
    have hnb33 := NB219_208.out
    have hnc33 := NB208_219.out
    have hnb34 := NB219_209.out
    have hnc34 := NB209_219.out
    have hcz35_0 := bv BK219 0 (.slice none 0 0)
    have hfz35_0 := bz BK219 0
    try go_wp2_with (first | ((with_reducible refine gc 56 rfl ?_); refine gl 32 Try.func56 #[.agg #[.slice Ao31 t215.length co31], .slice A3 l3.length c3] ?_; (with_reducible refine (spec_LoseDisk.calls k _ _ t215 _ _ l3 t220 t223 _ ?side1 ?side2 ?side3 ?side4 A23.out).mono ?_); (case side1 => refine (Kd.R_reads' (e := 67) (base := w.heap.size) (ok := fun k_ => True) (n := t215.length) (c := co31) ?_).2.2; exact (by exact (Kd.R_mono (Kd.R_far (p := ⟨gb219, 0, none⟩) (Kd.R_types HO217.out BK219.out (by decide)) (fun _ hk => hk.2) (.slice Ao31 t215.length co31)) (fun _ h_ => h_.1)))); (case side2 => exact (Kd.R_reads' HO217.out).2.1); (case side3 => exact Kd.C_below HR3.out (hS)); (case side4 => exact HC3.out); rintro e w36 ⟨v221, rfl, ho0, hb⟩; refine ⟨_, rfl, ?_⟩; have n0_ := AM (Kd.R_elder' (by exact (Kd.R_mono (Kd.R_far (p := ⟨gb219, 0, none⟩) (Kd.R_types HO217.out BK219.out (by decide)) (fun _ hk => hk.2) (.slice Ao31 t215.length co31)) (fun _ h_ => h_.1))) (Kd.R_base ho0) hb); have n1_ := AM (Kd.R_lower (Kd.R_new' ho0 (Kd.R_lt (by exact (Kd.R_mono (Kd.R_far (p := ⟨gb219, 0, none⟩) (Kd.R_types HO217.out BK219.out (by decide)) (fun _ hk => hk.2) (.slice Ao31 t215.length co31)) (fun _ h_ => h_.1))))) (below_size (hS))); have n2_ := AM (blk_below (g := gb208) (o := .cells #[.slice A0_0 l0_0.length c0_0] 30 (0, 0)) (be) hb); have n3_ := AM (blk_below (g := gb209) (o := .cells #[.slice none 0 0] 30 (0, 0)) (be) hb); have n4_ := AM (blk_below (g := gb219) (o := .cells #[.slice Ao31 t215.length co31] 30 (0, 0)) (bp #[.slice none 0 0] 0) hb); have n5_ := AM (below_step (hS) hb); clear HO217; clear BK208; clear BK209; clear BK219; clear HB; have HO217 := n0_; have HO222 := n1_; have BK208 := n2_; have BK209 := n3_; have BK219 := n4_; have HB := n5_; clear n0_ n1_ n2_ n3_ n4_ n5_; (try clear hb); (try clear hk); (try clear ho0); obtain ⟨Ao37, co37, eo37⟩ := Kd.R_slice HO222.out; subst eo37; have hnb38 := NB209_208.out; have hnc38 := NB208_209.out; have hcz39_0 := bv BK209 0 (.slice none 0 0); have hfz39_0 := bz BK209 0))
    refine bodyPost_ret (results_ct rfl _ _ gb209 30 #[.slice Ao37 t220.length co37] (0, 0) _ rfl (bp #[.slice none 0 0] 0) Try.underlying30 rfl (by kernel_rfl)) rfl ?_
    exact ⟨_, er, by exact Kd.R_mono (Kd.R_far (p := ⟨gb209, 0, none⟩) (Kd.R_types HO222.out BK209.out (by decide)) (fun _ hk => hk.2) (.slice Ao37 t220.length co37)) (fun _ hk => trivial), hS⟩
   rw [if_neg c8] at H
   exact absurd H (by simp)
  rw [if_neg c7] at H
  exact absurd H (by simp)
 replace c6 := Bool.eq_false_iff.mpr c6
 subst c6
 have H1 : (some (([] : List (S67)), false)) = some (r1, r2) := by rw [if_neg (show ¬ (false = true) by decide)] at H; exact H
 clear H
 have H := H1
 clear H1
 simp only [Option.some.injEq, Prod.mk.injEq] at H
 obtain ⟨rfl, rfl⟩ := H
 go_enter Try.func28, Try.ntmps28
 go_wp2_with (first | ((with_reducible refine gd 4 rfl ?_); refine bx (N := 4) (cs := #[.slice A0_0 l0_0.length c0_0]) (t := 30) ?_; intro gb208 hg w40 hbox hb; have BK208 := AM (hbox); have GW208 := AM (bs hg HB); have GE208 := AM (bs hg HB); replace HB := bq HB hb; clear hb hbox hg) | ((with_reducible refine gd 8 rfl ?_); refine bx (N := 8) (cs := #[.slice none 0 0]) (t := 30) ?_; intro gb209 hg w41 hbox hb; have BK209 := AM (hbox); have GW209 := AM (bt hg hS); have GE209 := AM (bt hg hS); replace HB := AM (below_step (hS) hb); have NB208_209 := AM (nl hg (bk BK208)); have NB209_208 := AM (ng hg (bk BK208)); replace BK208 := bw BK208 hb; clear hb hbox hg) | ((with_reducible refine gc 55 rfl ?_); refine gl 15 Try.func55 #[.int .i64 a2, .int .i64 0, .int .i64 (l1.length : Int)] ?_; (with_reducible refine (spec_l01In.calls a2 0 (l1.length : Int) false _ A5.out).mono ?_); rintro e w' ⟨rfl, ⟨nd, rfl⟩⟩; refine ⟨_, rfl, ?_⟩; (try (rw [drewN_self w41]; generalize hq_ : World.drewN w41 _ = w41; have n0_ : Aside0 (w41.heap[gb208]? = some (.cells #[.slice A0_0 l0_0.length c0_0] 30 (0, 0))) := ⟨by rw [← hq_]; exact (bk BK208)⟩; have n1_ : Aside0 (w41.heap[gb209]? = some (.cells #[.slice none 0 0] 30 (0, 0))) := ⟨by rw [← hq_]; exact (bk BK209)⟩; have n2_ : Aside0 (Below w.heap.size w w41) := ⟨by rw [← hq_]; exact (hS)⟩; clear BK208 BK209 HB hq_; have BK208 := n0_; have BK209 := n1_; have HB := n2_; clear n0_ n1_ n2_)); have hnb42 := NB209_208.out; have hnc42 := NB208_209.out; have hcz43_0 := bv BK209 0 (.slice none 0 0); have hfz43_0 := bz BK209 0))
 refine bodyPost_ret (results_ct rfl _ _ gb209 30 #[.slice none 0 0] (0, 0) _ rfl (bp #[.slice none 0 0] 0) Try.underlying30 rfl (by kernel_rfl)) rfl ?_
 exact ⟨_, er, by first | exact Kd.R_nil _ _ _ _ _ | exact Kd.N_nil _ _ _ _ _ | exact Kd.V_nil _ _ _ _ _ | exact Kd.Q_nil _ _ _ _ _ | exact Kd.S_nil _ _ _ _ _, hS⟩

/-! ### impl_LoseDisk: function 58 -/
theorem addr0 (g j : Nat) : (⟨g, 0, none⟩ : Addr).add j = ⟨g, j, none⟩ := by
  unfold Addr.add
  split
  · rename_i h; subst h; rfl
  rw [Nat.zero_add]
def impl_LoseDisk.n (l1 : List Int) (x : S67) (i : Int) : Int := mx x.f2 (mn (if i < (l1.length : Int) then rd l1 i else 0) (x.f1.size : Int))
def impl_LoseDisk.l0 : Nat → List Int → Nat → List S67 → Int → Option (List S67 × Bool)
  | 0, _, _, _, _ => none
  | k + 1, l1, m, x, i => if i < (m : Int) then (if 0 ≤ i ∧ 0 ≤ impl_LoseDisk.n l1 (rd_T67 x i) i ∧ impl_LoseDisk.n l1 (rd_T67 x i) i ≤ ((rd_T67 x i).f1.size : Int) then impl_LoseDisk.l0 k l1 m (x.set i.toNat ⟨(rd_T67 x i).f0, (rd_T67 x i).f1.extract 0 (impl_LoseDisk.n l1 (rd_T67 x i) i).toNat, impl_LoseDisk.n l1 (rd_T67 x i) i⟩) (wrap64 (i + 1)) else none) else some (x, true)
def impl_LoseDisk.f (k : Nat) (l0_0 : List S67) (l1 : List Int) : Option (List S67 × Bool) := (impl_DiskOk.f k l0_0).bind fun t => if t = true then ((impl_copyDisk.f l0_0).bind fun y => impl_LoseDisk.l0 k l1 y.length y 0) else some ([], false)
theorem impl_LoseDisk.mono_l : ∀ k l m x i, LeO (impl_LoseDisk.l0 k l m x i) (impl_LoseDisk.l0 (k + 1) l m x i)
  | 0 => fun _ _ _ _ r h => by simp [impl_LoseDisk.l0] at h
  | k + 1 => by
    have ih := impl_LoseDisk.mono_l k
    intro l m x i
    unfold impl_LoseDisk.l0
    refine LeO.ite ?_ (LeO.refl _)
    exact LeO.ite (ih _ _ _ _) (LeO.refl _)
theorem impl_LoseDisk.mono : ∀ a0 a1 k, LeO (impl_LoseDisk.f k a0 a1) (impl_LoseDisk.f (k + 1) a0 a1) := by
  intro a0 a1 k
  unfold impl_LoseDisk.f
  refine LeO.bind (impl_DiskOk.mono _ _) (fun _ => ?_)
  refine LeO.ite ?_ (LeO.refl _)
  exact LeO.bind (LeO.refl _) (fun _ => impl_LoseDisk.mono_l k _ _ _ _)
set_option maxHeartbeats 8000000 in
set_option maxRecDepth 100000 in
theorem impl_LoseDisk.calls (k : Nat) (A0_0 : Option Addr) (c0_0 : Nat) (l0_0 : List (S67)) (A1 : Option Addr) (c1 : Nat) (l1 : List Int) (r1 : List (S67)) (r2 : Bool) (w : World) (hr0_0 : Kd.C k67 w A0_0 l0_0.length l0_0) (hc0_0 : l0_0.length ≤ c0_0) (hr1 : Kd.C (Kd.int .i64) w A1 l1.length l1) (hc1 : l1.length ≤ c1) (h : impl_LoseDisk.f k l0_0 l1 = some (r1, r2)) :
    Calls Try.prog 58 #[.agg #[.slice A0_0 l0_0.length c0_0], .slice A1 l1.length c1] w fun e w' => ∃ v0_ : Value, e = .returned (.tuple #[.agg #[v0_], .bool r2]) ∧ Kd.R k67 67 w' w.heap.size (fun _ => True) v0_ r1 ∧ Below w.heap.size w w' := by
  have hu30 := Try.underlying30
  have hu67 := Try.underlying67
  have HR0 := AM hr0_0
  have HC0 := AM hc0_0
  have HR1 := AM hr1
  have HC1 := AM hc1
  clear hr0_0 hc0_0 hr1 hc1
  have HB := AM (Below.refl w.heap.size w)
  unfold impl_LoseDisk.f at h
  obtain ⟨t, e1, h⟩ := Option.bind_eq_some_iff.mp h
  have E1 := AM e1
  clear e1
  have hNB24 : True := trivial
  go_enter Try.func58, Try.ntmps58
  go_upto_if 12 with (first | ((with_reducible refine gd 2 rfl ?_); refine bx (N := 2) (cs := #[.slice A0_0 l0_0.length c0_0]) (t := 30) ?_; intro gb2 hg w2 hbox hb; have n0_ := bq HB hb; have n1_ := AM hbox; have n2_ := AM (bs hg HB); clear HB; have HB := n0_; have BK2 := n1_; have GE2 := n2_; have hcz2 := bv BK2 0 (.slice A0_0 l0_0.length c0_0); clear hb hbox hg n0_ n1_ n2_) | ((with_reducible refine gd 4 rfl ?_); refine bx (N := 4) (cs := #[.slice none 0 0]) (t := 30) ?_; intro gb4 hg w4 hbox hb; have n0_ := bq HB hb; have n1_ := AM hbox; have n2_ := AM (bs hg HB); have n3_ := AM (blk_below (g := gb2) (o := .cells #[.slice A0_0 l0_0.length c0_0] 30 (0, 0)) BK2.out hb); have n4_ := AM ((by rw [hg]; exact Nat.ne_of_lt (blk_lt BK2.out)) : gb2 ≠ gb4); clear HB BK2 hcz2; have HB := n0_; have BK4 := n1_; have GE4 := n2_; have BK2 := n3_; have NE := n4_; have hcz2 := bv BK2 0 (.slice A0_0 l0_0.length c0_0); clear hb hbox hg n0_ n1_ n2_ n3_ n4_) | ((with_reducible refine gc 42 rfl ?_); refine gl 11 Try.func42 #[.agg #[.slice A0_0 l0_0.length c0_0]] ?_; (with_reducible refine (impl_DiskOk.calls k A0_0 c0_0 l0_0 t _ (Kd.C_below HR0.out (hB HB)) HC0.out E1.out).mono ?_); rintro e w11 ⟨rfl, hb⟩; refine ⟨_, rfl, ?_⟩; replace HB := bq HB hb; replace BK2 := bw BK2 hb; replace BK4 := bw BK4 hb; clear hcz2 hb))
  cases t with
  | false =>
    rw [if_neg (by decide), Option.some.injEq, Prod.mk.injEq] at h
    obtain ⟨rfl, rfl⟩ := h
    have hcz4_0 := bv BK4 0 (.slice none 0 0)
    have hfz4_0 := bz BK4 0
    go_wp2
    refine bodyPost_ret (results_ct rfl _ _ gb4 30 #[.slice none 0 0] (0, 0) _ rfl (bp #[.slice none 0 0] 0) Try.underlying30 rfl (by kernel_rfl)) rfl ?_
    exact ⟨_, by first | rfl | (simp [errW_none, errW_some] <;> rfl), Kd.R_nil _ _ _ _ _, hS⟩
  | true =>
    rw [if_pos rfl] at h
    obtain ⟨y, e2, h⟩ := Option.bind_eq_some_iff.mp h
    have E2 := AM e2
    have HH := AM h
    clear e2 h
    have hcz2 := bv BK2 0 (.slice A0_0 l0_0.length c0_0)
    go_wp2_with (first | ((with_reducible refine gc 48 rfl ?_); refine gl 15 Try.func48 #[.agg #[.slice A0_0 l0_0.length c0_0]] ?_; (with_reducible refine (impl_copyDisk.calls A0_0 c0_0 l0_0 y _ (Kd.C_below HR0.out (hB HB)) HC0.out E2.out).mono ?_); rintro e w15 ⟨v0, rfl, ho, hb⟩; obtain ⟨Ao, co, rfl⟩ := Kd.R_slice ho; refine ⟨_, rfl, ?_⟩; replace BK2 := bw BK2 hb; replace BK4 := bw BK4 hb; have HO := AM (Kd.R_lower ho (below_size (hB HB))); replace HB := bq HB hb; clear hcz2 hb ho) | ((with_reducible refine gd 6 rfl ?_); refine bx (N := 6) (cs := #[.slice none 0 0]) (t := 30) ?_; intro gb6 hg w6 hbox hb; have n0_ := bq HB hb; have n1_ := AM hbox; have n2_ := AM (bs hg HB); have n3_ := bw BK2 hb; have n4_ := bw BK4 hb; have n5_ := AM ((by rw [hg]; exact Nat.ne_of_lt (blk_lt BK2.out)) : gb2 ≠ gb6); have n6_ := AM ((by rw [hg]; exact Nat.ne_of_lt (blk_lt BK4.out)) : gb4 ≠ gb6); have n7_ := AM (Kd.R_below HO.out hb); clear HB BK2 BK4 HO; have HB := n0_; have BK6 := n1_; have GE6 := n2_; have BK2 := n3_; have BK4 := n4_; have NE2 := n5_; have NE4 := n6_; have HO := n7_; have hcz6_0 := bv BK6 0 (.slice none 0 0); have hfz6_0 := bz BK6 0; clear hb hbox hg n0_ n1_ n2_ n3_ n4_ n5_ n6_ n7_))
    go_loopg [19] k (fun kq v19 w' => ∃ (x : List S67) (i : Int), v19 = .int .i64 i ∧ Aside0 (impl_LoseDisk.l0 kq l1 y.length x i = some (r1, r2)) ∧ Aside0 (kq ≤ k) ∧ Aside0 (Kd.R k67 67 w' w.heap.size (fun _ => True) (.slice Ao y.length co) x) ∧ Aside0 (w'.heap[gb4]? = some (.cells #[.slice none 0 0] 30 (0, 0))) ∧ Aside0 (w'.heap[gb6]? = some (.cells #[.slice Ao y.length co] 30 (0, 0))) ∧ Aside0 (Below w.heap.size w w'))
    case atStart => exact ⟨y, 0, sf, HH, ⟨Nat.le_refl _⟩, ⟨by (with_reducible repeat (first | apply Kd.R_alloc | apply Kd.R_drewN | apply Kd.R_drew)); exact Kd.R_mono (Kd.R_far (p := ⟨gb6, 0, none⟩) (Kd.R_types HO.out BK6.out (by decide)) (fun _ hk => hk.2) (.slice Ao y.length co)) (fun _ hk => trivial)⟩, ⟨by (with_reducible repeat first | apply aN | apply aD | apply aA); refine blk_far ?_ NE4.out _; exact bk BK4⟩, ⟨bp #[.slice none 0 0] 0⟩, ⟨hS⟩⟩
    obtain ⟨x, i, rfl, HA, HK1, HO, BK4, BK6, HB⟩ := hrel
    cases gk with
    | zero => exact absurd HA.out (by simp [impl_LoseDisk.l0])
    | succ k1 =>
      have H := HA.out
      clear HA
      simp only [impl_LoseDisk.l0] at H
      have HXY := AM (Kd.R_reads' HO.out).1
      by_cases c1 : i < (y.length : Int)
      · rw [if_pos c1] at H
        by_cases c2 : 0 ≤ i ∧ 0 ≤ impl_LoseDisk.n l1 (rd_T67 x i) i ∧ impl_LoseDisk.n l1 (rd_T67 x i) i ≤ ((rd_T67 x i).f1.size : Int)
        · rw [if_pos c2] at H
          have c1b0 : decide (i < (y.length : Int)) = true := decide_eq_true c1
          obtain ⟨gx, cx, eo, gbx, glx, clx, HGx⟩ := Kd.R_form HO.out (by have := HXY.out; omega)
          injection eo with ea en ec
          subst ea
          subst ec
          clear en
          have HH1 := AM H
          have GX := AM gbx
          have GL := AM glx
          clear H gbx glx
          obtain ⟨ad, e, hx0, hx1, hx2⟩ := at_T67 (Kd.R_reads' HO.out).2.2 i c2.1 (by have := HXY.out; omega)
          cases e
          rw [addr0] at hx0 hx1 hx2
          dsimp only at hx1 hx2
          have p1 := eq_true c2.1
          have q1 := eq_true c1
          have hcz6_0 := bv BK6 0 (.slice (some ⟨gx, 0, none⟩) y.length co)
          go_upto_if 27 with (first | ((with_reducible refine gd 8 rfl ?_); refine bx (N := 8) (cs := #[.string (⟨#[]⟩ : ByteArray), .string (⟨#[]⟩ : ByteArray), .int .i64 0]) (t := 67) ?_; intro gb8 hg w8 hbox hb; have n0_ := bq HB hb; have n1_ := AM hbox; have n2_ := AM (bs hg HB); have n3_ := bw BK4 hb; have n4_ := bw BK6 hb; have n5_ := AM ((by rw [hg]; exact Nat.ne_of_lt (blk_lt BK4.out)) : gb4 ≠ gb8); have n6_ := AM ((by rw [hg]; exact Nat.ne_of_lt (blk_lt BK6.out)) : gb6 ≠ gb8); have n7_ := AM (Kd.R_below (Kd.R_elderB HO.out gb8 (Nat.le_of_eq hg.symm)) hb); clear HB BK4 BK6 HO hcz6_0; have HB := n0_; have BK8 := n1_; have GE8 := n2_; have BK4 := n3_; have BK6 := n4_; have NE48 := n5_; have NE68 := n6_; have HO := n7_; have hcz8_0 := bv BK8 0 (.string (⟨#[]⟩ : ByteArray)); have hcz8_1 := bv BK8 1 (.string (⟨#[]⟩ : ByteArray)); have hcz8_2 := bv BK8 2 (.int .i64 0); have hfz8_0 := bz BK8 0; have hfz8_1 := bz BK8 1; have hfz8_2 := bz BK8 2; clear hb hbox hg n0_ n1_ n2_ n3_ n4_ n5_ n6_ n7_))
          (try simp only [Act.put, qT, q0, qS])
          have HX0 := AM hx0
          have HX1 := AM hx1
          have HX2 := AM hx2
          have C2 := AM c2
          clear c2
          go_cut [9] (fun v9 wc => ∃ (z : Int), v9 = .int .i64 z ∧ Aside0 (z = if i < (l1.length : Int) then rd l1 i else 0) ∧ Aside0 (Kd.R k67 67 wc w.heap.size (fun k_ => k_ ≠ gb8) (.slice (some ⟨gx, 0, none⟩) y.length co) x) ∧ Aside0 (wc.heap[gb4]? = some (.cells #[.slice none 0 0] 30 (0, 0))) ∧ Aside0 (wc.heap[gb6]? = some (.cells #[.slice (some ⟨gx, 0, none⟩) y.length co] 30 (0, 0))) ∧ Aside0 (wc.heap[gb8]? = some (.cells #[.string (rd_T67 x i).f0, .string (rd_T67 x i).f1, .int .i64 (rd_T67 x i).f2] 67 (0, 0))) ∧ Aside0 (Below w.heap.size w wc))
          case first =>
            by_cases c3 : i < (l1.length : Int)
            · have c3b0 : decide (i < (l1.length : Int)) = true := decide_eq_true c3
              obtain ⟨ad1, ee, hy0⟩ := Kd.at_int HR1.out i (of_eq_true p1) c3
              cases ee
              have q3 := eq_true c3
              have hn1 : ad1.block ≠ gb8 := Nat.ne_of_lt (Nat.lt_of_lt_of_le (by have := World.block_lt_of_cell? _ _ hy0; first | rwa [add_block] at this | exact this) GE8.out)
              replace hy0 := pw_cell_below HB.out hy0
              replace hy0 := (cell_far (p := ⟨gb8, 0, none⟩) (by first | (rw [add_block]; exact hn1) | (show (Addr.add _ _).block ≠ _; rw [add_block]; exact hn1) | exact hn1) (.string (rd_T67 x i).f0)).trans hy0
              replace hy0 := (cell_far (p := ⟨gb8, 1, none⟩) (by first | (rw [add_block]; exact hn1) | (show (Addr.add _ _).block ≠ _; rw [add_block]; exact hn1) | exact hn1) (.string (rd_T67 x i).f1)).trans hy0
              replace hy0 := (cell_far (p := ⟨gb8, 2, none⟩) (by first | (rw [add_block]; exact hn1) | (show (Addr.add _ _).block ≠ _; rw [add_block]; exact hn1) | exact hn1) (.int .i64 (rd_T67 x i).f2)).trans hy0
              have C3 := AM c3
              clear hn1 c3
              (first | rw [c3b0] | (simp only [i64_w, i32_w]; rw [c3b0]) | skip)
              go_wp2
              go_meet
              case rel => exact ⟨_, rfl, ⟨(if_pos (by have := C3.out; omega)).symm⟩, ⟨by (with_reducible repeat (first | apply Kd.R_alloc | apply Kd.R_drewN | apply Kd.R_drew)); exact Kd.R_mono (Kd.R_far (p := ⟨gb8, 2, none⟩) (Kd.R_far (p := ⟨gb8, 1, none⟩) (Kd.R_far (p := ⟨gb8, 0, none⟩) HO.out (fun _ hk => hk.2) (.string (rd_T67 x i).f0)) (fun _ hk => hk.2) (.string (rd_T67 x i).f1)) (fun _ hk => hk.2) (.int .i64 (rd_T67 x i).f2)) (fun _ hk => hk.2)⟩, ⟨by (with_reducible repeat first | apply aN | apply aD | apply aA); refine blk_far ?_ NE48.out _; refine blk_far ?_ NE48.out _; refine blk_far ?_ NE48.out _; exact BK4.out⟩, ⟨by (with_reducible repeat first | apply aN | apply aD | apply aA); refine blk_far ?_ NE68.out _; refine blk_far ?_ NE68.out _; refine blk_far ?_ NE68.out _; exact BK6.out⟩, ⟨by (with_reducible repeat first | apply aN | apply aD | apply aA); refine blk_put (cs := #[.string (rd_T67 x i).f0, .string (rd_T67 x i).f1, .int .i64 0]) ?_ 2 _ rfl; refine blk_put (cs := #[.string (rd_T67 x i).f0, .string (⟨#[]⟩ : ByteArray), .int .i64 0]) ?_ 1 _ rfl; refine blk_put (cs := #[.string (⟨#[]⟩ : ByteArray), .string (⟨#[]⟩ : ByteArray), .int .i64 0]) ?_ 0 _ rfl; exact BK8.out⟩, ⟨hS⟩⟩
            have c3b0 : decide (i < (l1.length : Int)) = false := decide_eq_false c3
            have C3 := AM c3
            clear c3
            (first | rw [c3b0] | (simp only [i64_w, i32_w]; rw [c3b0]) | skip)
            go_wp2
            go_meet
            case rel => exact ⟨_, rfl, ⟨(if_neg (by have := C3.out; omega)).symm⟩, ⟨by (with_reducible repeat (first | apply Kd.R_alloc | apply Kd.R_drewN | apply Kd.R_drew)); exact Kd.R_mono (Kd.R_far (p := ⟨gb8, 2, none⟩) (Kd.R_far (p := ⟨gb8, 1, none⟩) (Kd.R_far (p := ⟨gb8, 0, none⟩) HO.out (fun _ hk => hk.2) (.string (rd_T67 x i).f0)) (fun _ hk => hk.2) (.string (rd_T67 x i).f1)) (fun _ hk => hk.2) (.int .i64 (rd_T67 x i).f2)) (fun _ hk => hk.2)⟩, ⟨by (with_reducible repeat first | apply aN | apply aD | apply aA); refine blk_far ?_ NE48.out _; refine blk_far ?_ NE48.out _; refine blk_far ?_ NE48.out _; exact BK4.out⟩, ⟨by (with_reducible repeat first | apply aN | apply aD | apply aA); refine blk_far ?_ NE68.out _; refine blk_far ?_ NE68.out _; refine blk_far ?_ NE68.out _; exact BK6.out⟩, ⟨by (with_reducible repeat first | apply aN | apply aD | apply aA); refine blk_put (cs := #[.string (rd_T67 x i).f0, .string (rd_T67 x i).f1, .int .i64 0]) ?_ 2 _ rfl; refine blk_put (cs := #[.string (rd_T67 x i).f0, .string (⟨#[]⟩ : ByteArray), .int .i64 0]) ?_ 1 _ rfl; refine blk_put (cs := #[.string (⟨#[]⟩ : ByteArray), .string (⟨#[]⟩ : ByteArray), .int .i64 0]) ?_ 0 _ rfl; exact BK8.out⟩, ⟨hS⟩⟩
          case rest =>
            obtain ⟨z, rfl, HZ, HO, BK4, BK6, BK8, HB⟩ := hcut
            have hcz8_1 := bv BK8 1 (.string (rd_T67 x i).f1)
            have hcz8_2 := bv BK8 2 (.int .i64 (rd_T67 x i).f2)
            have hcz6_0 := bv BK6 0 (.slice (some ⟨gx, 0, none⟩) y.length co)
            have cN0 : 0 ≤ (if (rd_T67 x i).f2 < (if ((rd_T67 x i).f1.size : Int) < z then ((rd_T67 x i).f1.size : Int) else z) then (if ((rd_T67 x i).f1.size : Int) < z then ((rd_T67 x i).f1.size : Int) else z) else (rd_T67 x i).f2) := by have h_ := C2.out.2.1; unfold impl_LoseDisk.n at h_; rw [← HZ.out] at h_; exact h_
            have cN1 : (if (rd_T67 x i).f2 < (if ((rd_T67 x i).f1.size : Int) < z then ((rd_T67 x i).f1.size : Int) else z) then (if ((rd_T67 x i).f1.size : Int) < z then ((rd_T67 x i).f1.size : Int) else z) else (rd_T67 x i).f2) ≤ ((rd_T67 x i).f1.size : Int) := by have h_ := C2.out.2.2; unfold impl_LoseDisk.n at h_; rw [← HZ.out] at h_; exact h_
            go_upto_region 11 with (first | done)
            generalize hN : (if (rd_T67 x i).f2 < (if ((rd_T67 x i).f1.size : Int) < z then ((rd_T67 x i).f1.size : Int) else z) then (if ((rd_T67 x i).f1.size : Int) < z then ((rd_T67 x i).f1.size : Int) else z) else (rd_T67 x i).f2) = N at cN0 cN1 ⊢
            have HN := AM hN
            clear hN
            generalize (if ((rd_T67 x i).f1.size : Int) < z then ((rd_T67 x i).f1.size : Int) else z) = M_
            replace cN0 := eq_true cN0
            replace cN1 := eq_true cN1
            replace HO := AM (Kd.R_drew HO.out)
            replace BK4 := AM (blk_drew BK4.out)
            replace BK6 := AM (blk_drew BK6.out)
            replace BK8 := AM (blk_drew BK8.out)
            replace HB := AM (below_drew1 HB.out)
            clear hcz8_1 hcz8_2 hcz6_0
            refine sr 17 (fun w' => w'.cell? ⟨gb6, 0, none⟩ = some (.slice (some ⟨gx, 0, none⟩) y.length co) ∧ w'.cell? ⟨gb8, 1, none⟩ = some (.string (rd_T67 x i).f1)) [16] ⟨bc BK6 0, bc BK8 1⟩ (fun hHeld => ?_)
            generalize wc.drew = wd at HO BK4 BK6 BK8 HB hHeld ⊢
            obtain ⟨gx2, cx2, eo2, gbx2, glx2, clx2, HGX⟩ := Kd.R_form HO.out (by have := HXY.out; have := of_eq_true p1; have := of_eq_true q1; omega)
            injection eo2 with ea2 en2 ec2
            injection ea2 with ea2
            injection ea2 with ea2
            subst ea2
            clear en2 ec2 gbx2 glx2
            obtain ⟨ad2, e2, hx0, hx1, hx2⟩ := at_T67 (Kd.R_reads' HO.out).2.2 i (of_eq_true p1) (by have := HXY.out; have := of_eq_true p1; have := of_eq_true q1; omega)
            cases e2
            rw [addr0] at hx0 hx1 hx2
            dsimp only at hx1 hx2
            have hfx1 := blk_frozen HGX (i.toNat * 3 + 1)
            have hfx2 := blk_frozen HGX (i.toNat * 3 + 2)
            have N6 : gb6 ≠ gx := blk_ne BK6.out HGX (by decide)
            have N8 : gb8 ≠ gx := fun e_ => (HO.out.1 _ rfl) e_.symm
            refine pu 0 40 ?_; refine pu 2 42 ?_; refine pu 3 43 ?_; refine pu 5 45 ?_; refine pu 6 46 ?_; refine pu 8 48 ?_; refine pu 10 50 ?_; refine tu 1 41 ?_; refine tu 4 44 ?_; refine tu 7 47 ?_; refine pu 9 49 ?_; refine pu 11 51 ?_; refine pu 12 52 ?_
            refine ou 13 none fun K hK => ?_
            refine sk ?_
            refine hK.out _ _ ⟨((cell_far (p := ⟨gx, i.toNat * 3 + 1, none⟩) (show gb6 ≠ gx from N6) _).trans hHeld.1), ((cell_far (p := ⟨gx, i.toNat * 3 + 1, none⟩) (show gb8 ≠ gx from N8) _).trans hHeld.2)⟩ (fun hHeld => ?_)
            clear hK K
            refine pu 14 53 ?_; refine pu 15 54 ?_
            refine zu 16 none fun K hK => ?_
            refine sk ?_
            refine hK.out _ _ ?_
            clear hK K
            refine done_ (by kernel_rfl) ?_
            have N4 : gb4 ≠ gx := blk_ne BK4.out HGX (by decide)
            have EN : impl_LoseDisk.n l1 (rd_T67 x i) i = N := by unfold impl_LoseDisk.n; rw [← HZ.out]; exact HN.out
            have H' := HH1.out
            rw [EN] at H'
            have SEG := AM (Kd.R_mono (ok' := fun _ => True) (Kd.R_seg HO.out i (of_eq_true p1) (of_eq_true q1) (c := [.string (rd_T67 x i).f0, .string (rd_T67 x i).f1, .int .i64 (rd_T67 x i).f2]) (seg := [.string ((rd_T67 x i).f1.extract 0 N.toNat), .int .i64 N]) (j := 1) rfl (by
              intro j u hj
              rcases j with _ | _ | _ | j
              · simp at hj; subst hj; exact hx0
              · simp at hj; subst hj; exact hx1
              · simp at hj; subst hj; exact hx2
              simp at hj) (show 1 + 2 ≤ 3 by decide) (x' := ⟨(rd_T67 x i).f0, (rd_T67 x i).f1.extract 0 N.toNat, N⟩) (okp := fun k_ => k_ ≠ gb8 ∧ k_ ≠ gx) (k67_mkM wd _ _ ⟨(rd_T67 x i).f0, (rd_T67 x i).f1.extract 0 N.toNat, N⟩) (fun _ hk => hk)).1 (fun _ _ => trivial))
            have HL := AM H'
            clear H'
            (try simp only [Exit.inBlock, Exit.then])
            go_wp2
            go_roundg k1
            case measure => have := HK1.out; omega
            case rel => exact ⟨_, (wrap64 (i + 1)), sf, HL, ⟨by have := HK1.out; omega⟩, ⟨by (with_reducible repeat (first | apply Kd.R_alloc | apply Kd.R_drewN | apply Kd.R_drew)); exact SEG.out⟩, ⟨by (with_reducible repeat first | apply aN | apply aD | apply aA); refine blk_far ?_ N4 _; refine blk_far ?_ N4 _; exact BK4.out⟩, ⟨by (with_reducible repeat first | apply aN | apply aD | apply aA); refine blk_far ?_ N6 _; refine blk_far ?_ N6 _; exact BK6.out⟩, ⟨by repeat (first | (with_reducible first | exact HB.out | apply bA | apply bN | apply bD | refine below_set ?_ GX.out) | exact HB.out)⟩⟩
        rw [if_neg c2] at H
        exact absurd H (by simp)
      rw [if_neg c1] at H
      have c1b0 : decide (i < (y.length : Int)) = false := decide_eq_false c1
      simp only [Option.some.injEq, Prod.mk.injEq] at H
      obtain ⟨rfl, rfl⟩ := H
      have hcz6_0 := bv BK6 0 (.slice Ao y.length co)
      have hcz4_0 := bv BK4 0 (.slice none 0 0)
      have hfz4_0 := bz BK4 0
      go_wp2
      refine bodyPost_ret (results_ct rfl _ _ gb4 30 #[.slice Ao y.length co] (0, 0) _ rfl (bp #[.slice none 0 0] 0) Try.underlying30 rfl (by kernel_rfl)) rfl ?_
      exact ⟨_, by first | rfl | (simp [errW_none, errW_some] <;> rfl), by (with_reducible repeat (first | apply Kd.R_alloc | apply Kd.R_drewN | apply Kd.R_drew)); exact Kd.R_mono (Kd.R_far (p := ⟨gb4, 0, none⟩) (Kd.R_types HO.out BK4.out (by decide)) (fun _ hk => hk.2) (.slice Ao y.length co)) (fun _ hk => trivial), hS⟩



end Go.Proofs.Ytnkldnkolcighaa.XFnActs
