/- What the functions of a law compute, and that their calls compute it: written by a program of this session (xprint.py), which turns the kit print at a few places. -/
import Derived.Test.YtnkldnkolcighaaXFnActsx0
import Derived.Test.YtnkldnkolcighaaXFnActsx2
import Derived.Test.YtnkldnkolcighaaXFnActsx7
import Derived.Test.YtnkldnkolcighaaXFnActsx9
namespace Go.Proofs.Ytnkldnkolcighaa.XFnActs
open Go.RowKit Go.Proofs.YtnkldnkolcighaaQ.PrintWords Go.Proofs.YtnkldnkolcighaaQ.PrintLast Go.Proofs.YtnkldnkolcighaaQ.PrintMore
attribute [local go_sem] max2_int min2_int max_two min_two max_three min_three max_four min_four str_geq str_gtr   -- for this text's walks alone
set_option linter.unusedVariables false
set_option linter.unusedSimpArgs false

/-! ### impl_CutActs: function 30 -/
def impl_CutActs.f (k : Nat) (l0_0 : List (S67)) (l1 : List (S41)) (a2 : Int) (l3 : List Int) : Option ((List (S67)) × Bool) := (impl_within.f a2 0 (l1.length : Int)).bind fun t226 => (if t226 = true then (if 0 ≤ a2 then (if a2 ≤ (l1.length : Int) then ((impl_DoActs.f k l0_0 (l1.take (a2 : Int).toNat)).bind fun bt231 => (if bt231.2 < a2 then (some (([] : List (S67)), false)) else ((impl_LoseDisk.f k bt231.1 l3).bind fun bt236 => (some (bt236.1, bt236.2))))) else (none)) else (none)) else (some (([] : List (S67)), false)))
theorem impl_CutActs.mono : ∀ a0 a1 a2 a3 k, LeO (impl_CutActs.f k a0 a1 a2 a3) (impl_CutActs.f (k + 1) a0 a1 a2 a3) := by
 intro a0 a1 a2 a3 k
 unfold impl_CutActs.f
 repeat' first
   | (with_reducible exact LeO.refl _)
   | (with_reducible refine LeO.ite ?_ ?_)
   | (with_reducible refine LeO.bind ?_ (fun _ => ?_))
   | exact impl_DoActs.mono _ _ _
   | exact impl_LoseDisk.mono _ _ _
   | exact LeO.none _
   | refine LeO.ite ?_ ?_
   | refine LeO.bind ?_ (fun _ => ?_)
def impl_CutActs.T3 : Bool × List (List Nat × List Nat) := (true, [([], []), ([], []), ([], []), ([1, 2], [1, 2]), ([0, 3], [0, 3]), ([4], [4]), ([5], [5]), ([5], [5]), ([], []), ([8, 6, 4, 0, 1, 2, 3, 4, 5, 6, 8], [6, 8]), ([7, 9, 0, 1, 2, 3, 4, 5, 6, 7, 8, 9], [7])])
def impl_CutActs.B3 : List Nat := [0, 0, 0, 6, 15, 31, 63, 63, 0, 383, 1023]
theorem impl_CutActs.tab3 : rtab .any (opsOf Try.f30 3) = impl_CutActs.T3 := by kernel_rfl
theorem impl_CutActs.bits3 : waitsOk impl_CutActs.T3.2 impl_CutActs.B3 = true := by kernel_rfl
set_option maxHeartbeats 8000000 in
set_option maxRecDepth 100000 in
theorem impl_CutActs.calls (k : Nat) (A0_0 : Option Addr) (c0_0 : Nat) (l0_0 : List (S67)) (A1 : Option Addr) (c1 : Nat) (l1 : List (S41)) (a2 : Int) (A3 : Option Addr) (c3 : Nat) (l3 : List Int) (r1 : List (S67)) (r2 : Bool) (w : World) (hr0_0 : Kd.C k67 w A0_0 l0_0.length l0_0) (hc0_0 : l0_0.length ≤ c0_0) (hr1 : Kd.C k41 w A1 l1.length l1) (hc1 : l1.length ≤ c1) (hr3 : Kd.C (Kd.int .i64) w A3 l3.length l3) (hc3 : l3.length ≤ c3) (h : impl_CutActs.f k l0_0 l1 a2 l3 = some (r1, r2)) :
  Calls Try.prog 30 #[.agg #[.slice A0_0 l0_0.length c0_0], .slice A1 l1.length c1, .int .i64 a2, .slice A3 l3.length c3] w fun e w' => ∃ v0_ : Value, e = .returned (.tuple #[.agg #[v0_], .bool r2]) ∧ Kd.R k67 67 w' w.heap.size (fun _ => True) v0_ r1 ∧ Below w.heap.size w w' := by
 have hu30 := Try.underlying30
 have HR0_0 := AM hr0_0
 have HC0_0 := AM hc0_0
 clear hr0_0 hc0_0
 have HR1 := AM hr1
 have HC1 := AM hc1
 clear hr1 hc1
 have HR3 := AM hr3
 have HC3 := AM hc3
 clear hr3 hc3
 have HB := AM (Below.refl w.heap.size w)
 have H : ((impl_within.f a2 0 (l1.length : Int)).bind fun t226 => (if t226 = true then (if 0 ≤ a2 then (if a2 ≤ (l1.length : Int) then ((impl_DoActs.f k l0_0 (l1.take (a2 : Int).toNat)).bind fun bt231 => (if bt231.2 < a2 then (some (([] : List (S67)), false)) else ((impl_LoseDisk.f k bt231.1 l3).bind fun bt236 => (some (bt236.1, bt236.2))))) else (none)) else (none)) else (some (([] : List (S67)), false)))) = some (r1, r2) := h
 clear h
 replace H := bm H
 obtain ⟨t226, A50, H⟩ := H
 replace H : (if t226 = true then (if 0 ≤ a2 then (if a2 ≤ (l1.length : Int) then ((impl_DoActs.f k l0_0 (l1.take (a2 : Int).toNat)).bind fun bt231 => (if bt231.2 < a2 then (some (([] : List (S67)), false)) else ((impl_LoseDisk.f k bt231.1 l3).bind fun bt236 => (some (bt236.1, bt236.2))))) else (none)) else (none)) else (some (([] : List (S67)), false))) = some (r1, r2) := H
 have A5 := AM A50
 clear A50
 by_cases c6 : t226 = true
 ·subst c6
  have H1 : (if 0 ≤ a2 then (if a2 ≤ (l1.length : Int) then ((impl_DoActs.f k l0_0 (l1.take (a2 : Int).toNat)).bind fun bt231 => (if bt231.2 < a2 then (some (([] : List (S67)), false)) else ((impl_LoseDisk.f k bt231.1 l3).bind fun bt236 => (some (bt236.1, bt236.2))))) else (none)) else (none)) = some (r1, r2) := by rw [if_pos rfl] at H; exact H
  clear H
  have H := H1
  clear H1
  by_cases c7 : 0 ≤ a2
  ·rw [if_pos c7] at H
   have c7b0 := eq_true c7
   have c7b1 : decide (0 ≤ a2) = true := decide_eq_true c7
   clear c7
   by_cases c8 : a2 ≤ (l1.length : Int)
   ·rw [if_pos c8] at H
    have c8b0 := eq_true c8
    have c8b1 : decide (a2 ≤ (l1.length : Int)) = true := decide_eq_true c8
    clear c8
    obtain ⟨y227, hy227⟩ : ∃ y_ : List (S41), y_ = (l1.take (a2 : Int).toNat) := ⟨_, rfl⟩
    replace H : ((impl_DoActs.f k l0_0 y227).bind fun bt231 => (if bt231.2 < a2 then (some (([] : List (S67)), false)) else ((impl_LoseDisk.f k bt231.1 l3).bind fun bt236 => (some (bt236.1, bt236.2))))) = some (r1, r2) := by first | (rw [hy227]; with_reducible exact H) | (have H2_ := (Option.bind_some _ _).symm.trans H; rw [hy227]; with_reducible exact H2_) | (have H2_ := (Option.bind_some _ _).symm.trans H; with_reducible exact H2_) | with_reducible exact H | (rw [hy227]; exact H) | exact H
    have Ny227 := AM hy227
    clear hy227
    replace H := bm H
    obtain ⟨⟨t231, t234⟩, A90, H⟩ := H
    replace H : (if t234 < a2 then (some (([] : List (S67)), false)) else ((impl_LoseDisk.f k t231 l3).bind fun bt236 => (some (bt236.1, bt236.2)))) = some (r1, r2) := H
    have A9 := AM A90
    clear A90
    by_cases c10 : t234 < a2
    ·rw [if_pos c10] at H
     have c10b0 : decide (t234 < a2) = true := decide_eq_true c10
     clear c10
     simp only [Option.some.injEq, Prod.mk.injEq] at H
     obtain ⟨rfl, rfl⟩ := H
     go_enter Try.func30, Try.ntmps30
     try go_wp2_with (first | ((with_reducible refine gd 4 rfl ?_); refine bx (N := 4) (cs := #[.slice A0_0 l0_0.length c0_0]) (t := 30) ?_; intro gb224 hg w11 hbox hb; have BK224 := AM (hbox); have GW224 := AM (bs hg HB); have GE224 := AM (bs hg HB); replace HB := bq HB hb; clear hb hbox hg) | ((with_reducible refine gd 8 rfl ?_); refine bx (N := 8) (cs := #[.slice none 0 0]) (t := 30) ?_; intro gb225 hg w12 hbox hb; have BK225 := AM (hbox); have GW225 := AM (bt hg hS); have GE225 := AM (bt hg hS); replace HB := AM (below_step (hS) hb); have NB224_225 := AM (nl hg (bk BK224)); have NB225_224 := AM (ng hg (bk BK224)); replace BK224 := bw BK224 hb; clear hb hbox hg) | ((with_reducible refine gc 57 rfl ?_); refine gl 15 Try.func57 #[.int .i64 a2, .int .i64 0, .int .i64 (l1.length : Int)] ?_; (with_reducible refine (impl_within.calls a2 0 (l1.length : Int) true _ A5.out).mono ?_); rintro e w' ⟨rfl, ⟨nd, rfl⟩⟩; refine ⟨_, rfl, ?_⟩; (try (rw [drewN_self w12]; generalize hq_ : World.drewN w12 _ = w12; have n0_ : Aside0 (w12.heap[gb224]? = some (.cells #[.slice A0_0 l0_0.length c0_0] 30 (0, 0))) := ⟨by rw [← hq_]; exact (bk BK224)⟩; have n1_ : Aside0 (w12.heap[gb225]? = some (.cells #[.slice none 0 0] 30 (0, 0))) := ⟨by rw [← hq_]; exact (bk BK225)⟩; have n2_ : Aside0 (Below w.heap.size w w12) := ⟨by rw [← hq_]; exact (hS)⟩; clear BK224 BK225 HB hq_; have BK224 := n0_; have BK225 := n1_; have HB := n2_; clear n0_ n1_ n2_))))
     replace BK224 := AM (blk_drew BK224.out)
     replace BK225 := AM (blk_drew BK225.out)
     replace HB := AM (below_drew1 HB.out)
     have q14 : (a2 : Int) ≤ ((l1.length : Int) : Int) := od
     obtain ⟨i014, hi014, _, hsz14, _⟩ := info_parts info41
     have hroom14 : l1.length ≤ c1 := HC1.out
     have hC14 : Kd.C k41 _ A1 l1.length l1 := HR1.out
     have hcut14 := cut_to (P := Try.prog) 49 41 .i64 Try.underlying49 hi014 A1 l1.length c1 a2 (od) q14 hroom14
     have hr14 := Kd.C_take (m := (a2 : Int).toNat) hC14 (by omega)
     have hy14 : y227.length = (a2 : Int).toNat := (by rw [Ny227.out, List.length_take]; omega)
     rw [← Ny227.out] at hr14
     rw [← hy14] at hcut14
     have HR230 := AM hr14
     have HC230 := AM (show y227.length ≤ c1 from by omega)
     clear hr14 hC14 hroom14 hi014 hsz14
     have KY14 := AM hy14
     clear hy14
     replace q14 := eq_true q14
     refine sr 11 (fun w' => w'.cell? ⟨gb224, 0, none⟩ = some (.slice A0_0 l0_0.length c0_0)) [] (bc BK224 0) (fun hHeld => ?_); refine with_tabW impl_CutActs.tab3 impl_CutActs.bits3 (fun HT_ HW_ => ?_)
     generalize w12.drew = w13 at BK224 BK225 HB HR230 hHeld ⊢
     refine pt 1 20 ?_; refine pt 2 21 ?_; refine pt 3 22 ?_; refine tt 0 19 ?_
     refine join_ (σ := Value × Nat) 2 #[true, true, true, true, true, true, true, true, true, false, false] (fun s_ => [(23, .tuple #[.agg #[s_.1], .int .i64 t234]), (10, .pointer (some ⟨s_.2, 0, none⟩)), (18, .tuple #[.agg #[s_.1], .int .i64 t234]), (24, .agg #[s_.1]), (25, .int .i64 t234)]) (fun s_ w' => (w'.cell? ⟨gb224, 0, none⟩ = some (.slice A0_0 l0_0.length c0_0)) ∧ (Kd.R k67 67 w' w.heap.size (fun _ => True) s_.1 t231) ∧ (w'.heap[gb224]? = some (.cells #[.slice A0_0 l0_0.length c0_0] 30 (0, 0))) ∧ (w'.heap[gb225]? = some (.cells #[.slice none 0 0] 30 (0, 0))) ∧ (w'.heap[s_.2]? = some (.cells #[.slice none 0 0] 30 (0, 0))) ∧ (w.heap.size ≤ s_.2) ∧ (w.heap.size ≤ s_.2) ∧ (gb224 ≠ s_.2) ∧ (s_.2 ≠ gb224) ∧ (gb225 ≠ s_.2) ∧ (s_.2 ≠ gb225) ∧ (Below w.heap.size w w')) ?_ ?_
     rotate_left
     ·intro hCont
      refine two_ (i := 4) (j := 8) (Ni := some 23) (Nj := some 10) #[true, true, true, true, true, false, false, false, false, false, false] #[true, true, true, true, false, false, false, false, true, false, false] rfl rfl rfl rfl (two_of HT_.out (by kernel_rfl)) (by decide) (by decide) (fun K hK => ?_) (fun K hK => ?_)
      ·skip
       refine goes_ Try.func25 (by kernel_rfl) rfl #[.agg #[.slice A0_0 l0_0.length c0_0], .slice A1 y227.length c1] (by rfl) rfl rfl am ?_
       with_reducible refine (impl_DoActs.calls k _ _ l0_0 _ _ y227 t231 t234 _ ?side1 ?side2 ?side3 ?side4 A9.out).mono ?_
       (case side1 => repeat (first | exact (Kd.C_below HR0_0.out HB.out) | (with_reducible first | refine cA ?_ _ | refine cN ?_ _ | refine cD ?_)))
       (case side2 => exact HC0_0.out)
       (case side3 => repeat (first | exact (Kd.C_below HR230.out HB.out) | (with_reducible first | refine cA ?_ _ | refine cN ?_ _ | refine cD ?_)))
       (case side4 => exact HC230.out)
       rintro e w15 ⟨v232, rfl, ho0, hb⟩
       refine ⟨_, rfl, ?_⟩
       have HO233 := AM (Kd.R_lower ho0 (below_size (hS)))
       replace BK224 := bw BK224 hb
       replace BK225 := bw BK225 hb
       replace HB := AM (below_step (hS) hb)
       (try clear hb)
       (try clear hb2)
       (try clear hk)
       (try clear hi)
       (try clear ho0)
       refine hK.out _ _ (bc BK224 0) (fun hHeld => ?_)
       clear hK K
       refine nr ?_
       refine pt 5 18 ?_; refine pt 6 24 ?_; refine pt 7 25 ?_
       refine ot 8 (some 10) fun K hK => ?_
       refine box_step ?hg (N := 10) ?hd (cs := #[.slice none 0 0]) (t := 30) ?hr ?_; (case hd => rfl); (case hg => rfl); (case hr => first | (go_simp; done) | (go_simp; rfl))
       intro gb235 hg w16 hbox hb
       replace HO233 := AM (Kd.R_below (by exact HO233.out) hb)
       have BK235 := AM (hbox)
       have GW235 := AM (bt hg hS)
       have GE235 := AM (bt hg hS)
       replace HB := AM (below_step (hS) hb)
       have NB224_235 := AM (nl hg (bk BK224))
       have NB235_224 := AM (ng hg (bk BK224))
       replace BK224 := bw BK224 hb
       have NB225_235 := AM (nl hg (bk BK225))
       have NB235_225 := AM (ng hg (bk BK225))
       replace BK225 := bw BK225 hb
       clear hb hbox hg
       refine hK.out _ _ (bc BK224 0) (fun hHeld => ?_)
       clear hK K
       refine nr ?_
       exact norm_ (by simp only [putAll, Act.put, qT, q0, qS]) (hCont (v232, gb235) _ ⟨hHeld, (by exact HO233.out), (bk BK224), (bk BK225), (bk BK235), GW235.out, GE235.out, NB224_235.out, NB235_224.out, NB225_235.out, NB235_225.out, (hS)⟩)
      skip
      refine box_step ?hg (N := 10) ?hd (cs := #[.slice none 0 0]) (t := 30) ?hr ?_; (case hd => rfl); (case hg => rfl); (case hr => first | (go_simp; done) | (go_simp; rfl))
      intro gb235 hg w15 hbox hb
      have BK235 := AM (hbox)
      have GW235 := AM (bt hg hS)
      have GE235 := AM (bt hg hS)
      replace HB := AM (below_step (hS) hb)
      have NB224_235 := AM (nl hg (bk BK224))
      have NB235_224 := AM (ng hg (bk BK224))
      replace BK224 := bw BK224 hb
      have NB225_235 := AM (nl hg (bk BK225))
      have NB235_225 := AM (ng hg (bk BK225))
      replace BK225 := bw BK225 hb
      clear hb hbox hg
      refine hK.out _ _ (bc BK224 0) (fun hHeld => ?_)
      clear hK K
      refine nr ?_
      refine ot 4 (some 23) fun K hK => ?_
      refine goes_ Try.func25 (by kernel_rfl) rfl #[.agg #[.slice A0_0 l0_0.length c0_0], .slice A1 y227.length c1] (by rfl) rfl rfl am ?_
      with_reducible refine (impl_DoActs.calls k _ _ l0_0 _ _ y227 t231 t234 _ ?side1 ?side2 ?side3 ?side4 A9.out).mono ?_
      (case side1 => repeat (first | exact (Kd.C_below HR0_0.out HB.out) | (with_reducible first | refine cA ?_ _ | refine cN ?_ _ | refine cD ?_)))
      (case side2 => exact HC0_0.out)
      (case side3 => repeat (first | exact (Kd.C_below HR230.out HB.out) | (with_reducible first | refine cA ?_ _ | refine cN ?_ _ | refine cD ?_)))
      (case side4 => exact HC230.out)
      rintro e w16 ⟨v232, rfl, ho0, hb⟩
      refine ⟨_, rfl, ?_⟩
      have HO233 := AM (Kd.R_lower ho0 (below_size (hS)))
      replace BK224 := bw BK224 hb
      replace BK225 := bw BK225 hb
      replace BK235 := bw BK235 hb
      replace HB := AM (below_step (hS) hb)
      (try clear hb)
      (try clear hb2)
      (try clear hk)
      (try clear hi)
      (try clear ho0)
      refine hK.out _ _ (bc BK224 0) (fun hHeld => ?_)
      clear hK K
      refine nr ?_
      refine pt 5 18 ?_; refine pt 6 24 ?_; refine pt 7 25 ?_
      exact norm_ (by simp only [putAll, Act.put, qT, q0, qS]) (hCont (v232, gb235) _ ⟨hHeld, (by exact HO233.out), (bk BK224), (bk BK225), (bk BK235), GW235.out, GE235.out, NB224_235.out, NB235_224.out, NB225_235.out, NB235_225.out, (hS)⟩)
     rintro ⟨v232, gb235⟩ w17 ⟨hS_, h0_, h1_, h2_, h3_, h4_, h5_, h6_, h7_, h8_, h9_, h10_⟩
     have n0_ : Aside0 (Kd.R k67 67 w17 w.heap.size (fun _ => True) v232 t231) := ⟨h0_⟩
     have n1_ : Aside0 (w17.heap[gb224]? = some (.cells #[.slice A0_0 l0_0.length c0_0] 30 (0, 0))) := ⟨h1_⟩
     have n2_ : Aside0 (w17.heap[gb225]? = some (.cells #[.slice none 0 0] 30 (0, 0))) := ⟨h2_⟩
     have n3_ : Aside0 (w17.heap[gb235]? = some (.cells #[.slice none 0 0] 30 (0, 0))) := ⟨h3_⟩
     have n4_ : Aside0 (w.heap.size ≤ gb235) := ⟨h4_⟩
     have n5_ : Aside0 (w.heap.size ≤ gb235) := ⟨h5_⟩
     have n6_ : Aside0 (gb224 ≠ gb235) := ⟨h6_⟩
     have n7_ : Aside0 (gb235 ≠ gb224) := ⟨h7_⟩
     have n8_ : Aside0 (gb225 ≠ gb235) := ⟨h8_⟩
     have n9_ : Aside0 (gb235 ≠ gb225) := ⟨h9_⟩
     have n10_ : Aside0 (Below w.heap.size w w17) := ⟨h10_⟩
     clear BK224
     clear BK225
     clear HB
     clear h0_ h1_ h2_ h3_ h4_ h5_ h6_ h7_ h8_ h9_ h10_
     have HO233 := n0_
     have BK224 := n1_
     have BK225 := n2_
     have BK235 := n3_
     have GW235 := n4_
     have GE235 := n5_
     have NB224_235 := n6_
     have NB235_224 := n7_
     have NB225_235 := n8_
     have NB235_225 := n9_
     have HB := n10_
     clear n0_ n1_ n2_ n3_ n4_ n5_ n6_ n7_ n8_ n9_ n10_
     have hHeld : w17.cell? ⟨gb224, 0, none⟩ = some (.slice A0_0 l0_0.length c0_0) := hS_
     obtain ⟨Ao18, co18, eo18⟩ := Kd.R_slice HO233.out
     (first | subst eo18 | (injection eo18 with f1_ f2_ f3_; have f4_ := f1_.symm; have f5_ := f3_.symm; clear f1_ f2_ f3_; subst f4_; subst f5_))
     refine norm_ (a' := ?_) ?_ ?_
     rotate_left
     ·simp only [putAll, Act.put, qT, q0, qS]
      rfl
     refine ot 9 none fun K hK => ?_
     have hs19 : w17.cell? ⟨gb235, 0, none⟩ = some (.slice none 0 0) := bc BK235 0
     have hfs19 := bz BK235 0
     have hns19_0 := NB224_235.out
     have hns19_1 := NB225_235.out
     have hms19_0 := NB235_224.out
     have hms19_1 := NB235_225.out
     refine sk ?_
     refine hK.out _ _ (((cell_far (p := ⟨gb235, _, none⟩) NB224_235.out _).trans (hHeld))) (fun hHeld => ?_)
     clear hK K
     refine pt 10 11 ?_
     refine dn ?_
     have hnb20 := NB225_224.out
     have hnc20 := NB224_225.out
     have hnb21 := NB225_235.out
     have hnc21 := NB235_225.out
     have hcz22_0 := bv BK225 0 (.slice none 0 0)
     have hfz22_0 := bz BK225 0
     try go_wp2
     refine bodyPost_ret (results_ct rfl _ _ gb225 30 #[.slice none 0 0] (0, 0) _ rfl (bp #[.slice none 0 0] 0) Try.underlying30 rfl (by kernel_rfl)) rfl ?_
     exact ⟨_, er, by first | exact Kd.R_nil _ _ _ _ _ | exact Kd.N_nil _ _ _ _ _ | exact Kd.V_nil _ _ _ _ _ | exact Kd.Q_nil _ _ _ _ _ | exact Kd.S_nil _ _ _ _ _, hS⟩
    rw [if_neg c10] at H
    have c10b0 : decide (t234 < a2) = false := decide_eq_false c10
    clear c10
    replace H := bm H
    obtain ⟨⟨t236, t239⟩, A230, H⟩ := H
    replace H : (some (t236, t239)) = some (r1, r2) := H
    have A23 := AM A230
    clear A230
    simp only [Option.some.injEq, Prod.mk.injEq] at H
    obtain ⟨rfl, rfl⟩ := H
    go_enter Try.func30, Try.ntmps30
    try go_wp2_with (first | ((with_reducible refine gd 4 rfl ?_); refine bx (N := 4) (cs := #[.slice A0_0 l0_0.length c0_0]) (t := 30) ?_; intro gb224 hg w24 hbox hb; have BK224 := AM (hbox); have GW224 := AM (bs hg HB); have GE224 := AM (bs hg HB); replace HB := bq HB hb; clear hb hbox hg) | ((with_reducible refine gd 8 rfl ?_); refine bx (N := 8) (cs := #[.slice none 0 0]) (t := 30) ?_; intro gb225 hg w25 hbox hb; have BK225 := AM (hbox); have GW225 := AM (bt hg hS); have GE225 := AM (bt hg hS); replace HB := AM (below_step (hS) hb); have NB224_225 := AM (nl hg (bk BK224)); have NB225_224 := AM (ng hg (bk BK224)); replace BK224 := bw BK224 hb; clear hb hbox hg) | ((with_reducible refine gc 57 rfl ?_); refine gl 15 Try.func57 #[.int .i64 a2, .int .i64 0, .int .i64 (l1.length : Int)] ?_; (with_reducible refine (impl_within.calls a2 0 (l1.length : Int) true _ A5.out).mono ?_); rintro e w' ⟨rfl, ⟨nd, rfl⟩⟩; refine ⟨_, rfl, ?_⟩; (try (rw [drewN_self w25]; generalize hq_ : World.drewN w25 _ = w25; have n0_ : Aside0 (w25.heap[gb224]? = some (.cells #[.slice A0_0 l0_0.length c0_0] 30 (0, 0))) := ⟨by rw [← hq_]; exact (bk BK224)⟩; have n1_ : Aside0 (w25.heap[gb225]? = some (.cells #[.slice none 0 0] 30 (0, 0))) := ⟨by rw [← hq_]; exact (bk BK225)⟩; have n2_ : Aside0 (Below w.heap.size w w25) := ⟨by rw [← hq_]; exact (hS)⟩; clear BK224 BK225 HB hq_; have BK224 := n0_; have BK225 := n1_; have HB := n2_; clear n0_ n1_ n2_))))
    replace BK224 := AM (blk_drew BK224.out)
    replace BK225 := AM (blk_drew BK225.out)
    replace HB := AM (below_drew1 HB.out)
    have q27 : (a2 : Int) ≤ ((l1.length : Int) : Int) := od
    obtain ⟨i027, hi027, _, hsz27, _⟩ := info_parts info41
    have hroom27 : l1.length ≤ c1 := HC1.out
    have hC27 : Kd.C k41 _ A1 l1.length l1 := HR1.out
    have hcut27 := cut_to (P := Try.prog) 49 41 .i64 Try.underlying49 hi027 A1 l1.length c1 a2 (od) q27 hroom27
    have hr27 := Kd.C_take (m := (a2 : Int).toNat) hC27 (by omega)
    have hy27 : y227.length = (a2 : Int).toNat := (by rw [Ny227.out, List.length_take]; omega)
    rw [← Ny227.out] at hr27
    rw [← hy27] at hcut27
    have HR230 := AM hr27
    have HC230 := AM (show y227.length ≤ c1 from by omega)
    clear hr27 hC27 hroom27 hi027 hsz27
    have KY27 := AM hy27
    clear hy27
    replace q27 := eq_true q27
    refine sr 11 (fun w' => w'.cell? ⟨gb224, 0, none⟩ = some (.slice A0_0 l0_0.length c0_0)) [] (bc BK224 0) (fun hHeld => ?_); refine with_tabW impl_CutActs.tab3 impl_CutActs.bits3 (fun HT_ HW_ => ?_)
    generalize w25.drew = w26 at BK224 BK225 HB HR230 hHeld ⊢
    refine pt 1 20 ?_; refine pt 2 21 ?_; refine pt 3 22 ?_; refine tt 0 19 ?_
    refine join_ (σ := Value × Nat) 2 #[true, true, true, true, true, true, true, true, true, false, false] (fun s_ => [(23, .tuple #[.agg #[s_.1], .int .i64 t234]), (10, .pointer (some ⟨s_.2, 0, none⟩)), (18, .tuple #[.agg #[s_.1], .int .i64 t234]), (24, .agg #[s_.1]), (25, .int .i64 t234)]) (fun s_ w' => (w'.cell? ⟨gb224, 0, none⟩ = some (.slice A0_0 l0_0.length c0_0)) ∧ (Kd.R k67 67 w' w.heap.size (fun _ => True) s_.1 t231) ∧ (w'.heap[gb224]? = some (.cells #[.slice A0_0 l0_0.length c0_0] 30 (0, 0))) ∧ (w'.heap[gb225]? = some (.cells #[.slice none 0 0] 30 (0, 0))) ∧ (w'.heap[s_.2]? = some (.cells #[.slice none 0 0] 30 (0, 0))) ∧ (w.heap.size ≤ s_.2) ∧ (w.heap.size ≤ s_.2) ∧ (gb224 ≠ s_.2) ∧ (s_.2 ≠ gb224) ∧ (gb225 ≠ s_.2) ∧ (s_.2 ≠ gb225) ∧ (Below w.heap.size w w')) ?_ ?_
    rotate_left
    ·intro hCont
     refine two_ (i := 4) (j := 8) (Ni := some 23) (Nj := some 10) #[true, true, true, true, true, false, false, false, false, false, false] #[true, true, true, true, false, false, false, false, true, false, false] rfl rfl rfl rfl (two_of HT_.out (by kernel_rfl)) (by decide) (by decide) (fun K hK => ?_) (fun K hK => ?_)
     ·skip
      refine goes_ Try.func25 (by kernel_rfl) rfl #[.agg #[.slice A0_0 l0_0.length c0_0], .slice A1 y227.length c1] (by rfl) rfl rfl am ?_
      with_reducible refine (impl_DoActs.calls k _ _ l0_0 _ _ y227 t231 t234 _ ?side1 ?side2 ?side3 ?side4 A9.out).mono ?_
      (case side1 => repeat (first | exact (Kd.C_below HR0_0.out HB.out) | (with_reducible first | refine cA ?_ _ | refine cN ?_ _ | refine cD ?_)))
      (case side2 => exact HC0_0.out)
      (case side3 => repeat (first | exact (Kd.C_below HR230.out HB.out) | (with_reducible first | refine cA ?_ _ | refine cN ?_ _ | refine cD ?_)))
      (case side4 => exact HC230.out)
      rintro e w28 ⟨v232, rfl, ho0, hb⟩
      refine ⟨_, rfl, ?_⟩
      have HO233 := AM (Kd.R_lower ho0 (below_size (hS)))
      replace BK224 := bw BK224 hb
      replace BK225 := bw BK225 hb
      replace HB := AM (below_step (hS) hb)
      (try clear hb)
      (try clear hb2)
      (try clear hk)
      (try clear hi)
      (try clear ho0)
      refine hK.out _ _ (bc BK224 0) (fun hHeld => ?_)
      clear hK K
      refine nr ?_
      refine pt 5 18 ?_; refine pt 6 24 ?_; refine pt 7 25 ?_
      refine ot 8 (some 10) fun K hK => ?_
      refine box_step ?hg (N := 10) ?hd (cs := #[.slice none 0 0]) (t := 30) ?hr ?_; (case hd => rfl); (case hg => rfl); (case hr => first | (go_simp; done) | (go_simp; rfl))
      intro gb235 hg w29 hbox hb
      replace HO233 := AM (Kd.R_below (by exact HO233.out) hb)
      have BK235 := AM (hbox)
      have GW235 := AM (bt hg hS)
      have GE235 := AM (bt hg hS)
      replace HB := AM (below_step (hS) hb)
      have NB224_235 := AM (nl hg (bk BK224))
      have NB235_224 := AM (ng hg (bk BK224))
      replace BK224 := bw BK224 hb
      have NB225_235 := AM (nl hg (bk BK225))
      have NB235_225 := AM (ng hg (bk BK225))
      replace BK225 := bw BK225 hb
      clear hb hbox hg
      refine hK.out _ _ (bc BK224 0) (fun hHeld => ?_)
      clear hK K
      refine nr ?_
      exact norm_ (by simp only [putAll, Act.put, qT, q0, qS]) (hCont (v232, gb235) _ ⟨hHeld, (by exact HO233.out), (bk BK224), (bk BK225), (bk BK235), GW235.out, GE235.out, NB224_235.out, NB235_224.out, NB225_235.out, NB235_225.out, (hS)⟩)
     skip
     refine box_step ?hg (N := 10) ?hd (cs := #[.slice none 0 0]) (t := 30) ?hr ?_; (case hd => rfl); (case hg => rfl); (case hr => first | (go_simp; done) | (go_simp; rfl))
     intro gb235 hg w28 hbox hb
     have BK235 := AM (hbox)
     have GW235 := AM (bt hg hS)
     have GE235 := AM (bt hg hS)
     replace HB := AM (below_step (hS) hb)
     have NB224_235 := AM (nl hg (bk BK224))
     have NB235_224 := AM (ng hg (bk BK224))
     replace BK224 := bw BK224 hb
     have NB225_235 := AM (nl hg (bk BK225))
     have NB235_225 := AM (ng hg (bk BK225))
     replace BK225 := bw BK225 hb
     clear hb hbox hg
     refine hK.out _ _ (bc BK224 0) (fun hHeld => ?_)
     clear hK K
     refine nr ?_
     refine ot 4 (some 23) fun K hK => ?_
     refine goes_ Try.func25 (by kernel_rfl) rfl #[.agg #[.slice A0_0 l0_0.length c0_0], .slice A1 y227.length c1] (by rfl) rfl rfl am ?_
     with_reducible refine (impl_DoActs.calls k _ _ l0_0 _ _ y227 t231 t234 _ ?side1 ?side2 ?side3 ?side4 A9.out).mono ?_
     (case side1 => repeat (first | exact (Kd.C_below HR0_0.out HB.out) | (with_reducible first | refine cA ?_ _ | refine cN ?_ _ | refine cD ?_)))
     (case side2 => exact HC0_0.out)
     (case side3 => repeat (first | exact (Kd.C_below HR230.out HB.out) | (with_reducible first | refine cA ?_ _ | refine cN ?_ _ | refine cD ?_)))
     (case side4 => exact HC230.out)
     rintro e w29 ⟨v232, rfl, ho0, hb⟩
     refine ⟨_, rfl, ?_⟩
     have HO233 := AM (Kd.R_lower ho0 (below_size (hS)))
     replace BK224 := bw BK224 hb
     replace BK225 := bw BK225 hb
     replace BK235 := bw BK235 hb
     replace HB := AM (below_step (hS) hb)
     (try clear hb)
     (try clear hb2)
     (try clear hk)
     (try clear hi)
     (try clear ho0)
     refine hK.out _ _ (bc BK224 0) (fun hHeld => ?_)
     clear hK K
     refine nr ?_
     refine pt 5 18 ?_; refine pt 6 24 ?_; refine pt 7 25 ?_
     exact norm_ (by simp only [putAll, Act.put, qT, q0, qS]) (hCont (v232, gb235) _ ⟨hHeld, (by exact HO233.out), (bk BK224), (bk BK225), (bk BK235), GW235.out, GE235.out, NB224_235.out, NB235_224.out, NB225_235.out, NB235_225.out, (hS)⟩)
    rintro ⟨v232, gb235⟩ w30 ⟨hS_, h0_, h1_, h2_, h3_, h4_, h5_, h6_, h7_, h8_, h9_, h10_⟩
    have n0_ : Aside0 (Kd.R k67 67 w30 w.heap.size (fun _ => True) v232 t231) := ⟨h0_⟩
    have n1_ : Aside0 (w30.heap[gb224]? = some (.cells #[.slice A0_0 l0_0.length c0_0] 30 (0, 0))) := ⟨h1_⟩
    have n2_ : Aside0 (w30.heap[gb225]? = some (.cells #[.slice none 0 0] 30 (0, 0))) := ⟨h2_⟩
    have n3_ : Aside0 (w30.heap[gb235]? = some (.cells #[.slice none 0 0] 30 (0, 0))) := ⟨h3_⟩
    have n4_ : Aside0 (w.heap.size ≤ gb235) := ⟨h4_⟩
    have n5_ : Aside0 (w.heap.size ≤ gb235) := ⟨h5_⟩
    have n6_ : Aside0 (gb224 ≠ gb235) := ⟨h6_⟩
    have n7_ : Aside0 (gb235 ≠ gb224) := ⟨h7_⟩
    have n8_ : Aside0 (gb225 ≠ gb235) := ⟨h8_⟩
    have n9_ : Aside0 (gb235 ≠ gb225) := ⟨h9_⟩
    have n10_ : Aside0 (Below w.heap.size w w30) := ⟨h10_⟩
    clear BK224
    clear BK225
    clear HB
    clear h0_ h1_ h2_ h3_ h4_ h5_ h6_ h7_ h8_ h9_ h10_
    have HO233 := n0_
    have BK224 := n1_
    have BK225 := n2_
    have BK235 := n3_
    have GW235 := n4_
    have GE235 := n5_
    have NB224_235 := n6_
    have NB235_224 := n7_
    have NB225_235 := n8_
    have NB235_225 := n9_
    have HB := n10_
    clear n0_ n1_ n2_ n3_ n4_ n5_ n6_ n7_ n8_ n9_ n10_
    have hHeld : w30.cell? ⟨gb224, 0, none⟩ = some (.slice A0_0 l0_0.length c0_0) := hS_
    obtain ⟨Ao31, co31, eo31⟩ := Kd.R_slice HO233.out
    (first | subst eo31 | (injection eo31 with f1_ f2_ f3_; have f4_ := f1_.symm; have f5_ := f3_.symm; clear f1_ f2_ f3_; subst f4_; subst f5_))
    refine norm_ (a' := ?_) ?_ ?_
    rotate_left
    ·simp only [putAll, Act.put, qT, q0, qS]
     rfl
    refine ot 9 none fun K hK => ?_
    have hs32 : w30.cell? ⟨gb235, 0, none⟩ = some (.slice none 0 0) := bc BK235 0
    have hfs32 := bz BK235 0
    have hns32_0 := NB224_235.out
    have hns32_1 := NB225_235.out
    have hms32_0 := NB235_224.out
    have hms32_1 := NB235_225.out
    refine sk ?_
    refine hK.out _ _ (((cell_far (p := ⟨gb235, _, none⟩) NB224_235.out _).trans (hHeld))) (fun hHeld => ?_)
    clear hK K
    refine pt 10 11 ?_
    refine dn ?_
    have hnb33 := NB235_224.out
    have hnc33 := NB224_235.out
    have hnb34 := NB235_225.out
    have hnc34 := NB225_235.out
    have hcz35_0 := bv BK235 0 (.slice none 0 0)
    have hfz35_0 := bz BK235 0
    try go_wp2_with (first | ((with_reducible refine gc 58 rfl ?_); refine gl 32 Try.func58 #[.agg #[.slice Ao31 t231.length co31], .slice A3 l3.length c3] ?_; (with_reducible refine (impl_LoseDisk.calls k _ _ t231 _ _ l3 t236 t239 _ ?side1 ?side2 ?side3 ?side4 A23.out).mono ?_); (case side1 => refine (Kd.R_reads' (e := 67) (base := w.heap.size) (ok := fun k_ => True) (n := t231.length) (c := co31) ?_).2.2; exact (by exact (Kd.R_mono (Kd.R_far (p := ⟨gb235, 0, none⟩) (Kd.R_types HO233.out BK235.out (by decide)) (fun _ hk => hk.2) (.slice Ao31 t231.length co31)) (fun _ h_ => h_.1)))); (case side2 => exact (Kd.R_reads' HO233.out).2.1); (case side3 => exact Kd.C_below HR3.out (hS)); (case side4 => exact HC3.out); rintro e w36 ⟨v237, rfl, ho0, hb⟩; refine ⟨_, rfl, ?_⟩; have n0_ := AM (Kd.R_elder' (by exact (Kd.R_mono (Kd.R_far (p := ⟨gb235, 0, none⟩) (Kd.R_types HO233.out BK235.out (by decide)) (fun _ hk => hk.2) (.slice Ao31 t231.length co31)) (fun _ h_ => h_.1))) (Kd.R_base ho0) hb); have n1_ := AM (Kd.R_lower (Kd.R_new' ho0 (Kd.R_lt (by exact (Kd.R_mono (Kd.R_far (p := ⟨gb235, 0, none⟩) (Kd.R_types HO233.out BK235.out (by decide)) (fun _ hk => hk.2) (.slice Ao31 t231.length co31)) (fun _ h_ => h_.1))))) (below_size (hS))); have n2_ := AM (blk_below (g := gb224) (o := .cells #[.slice A0_0 l0_0.length c0_0] 30 (0, 0)) (be) hb); have n3_ := AM (blk_below (g := gb225) (o := .cells #[.slice none 0 0] 30 (0, 0)) (be) hb); have n4_ := AM (blk_below (g := gb235) (o := .cells #[.slice Ao31 t231.length co31] 30 (0, 0)) (bp #[.slice none 0 0] 0) hb); have n5_ := AM (below_step (hS) hb); clear HO233; clear BK224; clear BK225; clear BK235; clear HB; have HO233 := n0_; have HO238 := n1_; have BK224 := n2_; have BK225 := n3_; have BK235 := n4_; have HB := n5_; clear n0_ n1_ n2_ n3_ n4_ n5_; (try clear hb); (try clear hk); (try clear ho0); obtain ⟨Ao37, co37, eo37⟩ := Kd.R_slice HO238.out; subst eo37; have hnb38 := NB225_224.out; have hnc38 := NB224_225.out; have hcz39_0 := bv BK225 0 (.slice none 0 0); have hfz39_0 := bz BK225 0))
    refine bodyPost_ret (results_ct rfl _ _ gb225 30 #[.slice Ao37 t236.length co37] (0, 0) _ rfl (bp #[.slice none 0 0] 0) Try.underlying30 rfl (by kernel_rfl)) rfl ?_
    exact ⟨_, er, by exact Kd.R_mono (Kd.R_far (p := ⟨gb225, 0, none⟩) (Kd.R_types HO238.out BK225.out (by decide)) (fun _ hk => hk.2) (.slice Ao37 t236.length co37)) (fun _ hk => trivial), hS⟩
   rw [if_neg c8] at H
   exact absurd H (by simp)
  rw [if_neg c7] at H
  exact absurd H (by simp)
 replace c6 := Bool.eq_false_iff.mpr c6
 subst c6
 have H1 : (some (([] : List (S67)), false)) = some (r1, r2) := by rw [if_neg (show ¬ (false = true) by decide)] at H; exact H
 clear H
 have H := H1
 clear H1
 simp only [Option.some.injEq, Prod.mk.injEq] at H
 obtain ⟨rfl, rfl⟩ := H
 go_enter Try.func30, Try.ntmps30
 go_wp2_with (first | ((with_reducible refine gd 4 rfl ?_); refine bx (N := 4) (cs := #[.slice A0_0 l0_0.length c0_0]) (t := 30) ?_; intro gb224 hg w40 hbox hb; have BK224 := AM (hbox); have GW224 := AM (bs hg HB); have GE224 := AM (bs hg HB); replace HB := bq HB hb; clear hb hbox hg) | ((with_reducible refine gd 8 rfl ?_); refine bx (N := 8) (cs := #[.slice none 0 0]) (t := 30) ?_; intro gb225 hg w41 hbox hb; have BK225 := AM (hbox); have GW225 := AM (bt hg hS); have GE225 := AM (bt hg hS); replace HB := AM (below_step (hS) hb); have NB224_225 := AM (nl hg (bk BK224)); have NB225_224 := AM (ng hg (bk BK224)); replace BK224 := bw BK224 hb; clear hb hbox hg) | ((with_reducible refine gc 57 rfl ?_); refine gl 15 Try.func57 #[.int .i64 a2, .int .i64 0, .int .i64 (l1.length : Int)] ?_; (with_reducible refine (impl_within.calls a2 0 (l1.length : Int) false _ A5.out).mono ?_); rintro e w' ⟨rfl, ⟨nd, rfl⟩⟩; refine ⟨_, rfl, ?_⟩; (try (rw [drewN_self w41]; generalize hq_ : World.drewN w41 _ = w41; have n0_ : Aside0 (w41.heap[gb224]? = some (.cells #[.slice A0_0 l0_0.length c0_0] 30 (0, 0))) := ⟨by rw [← hq_]; exact (bk BK224)⟩; have n1_ : Aside0 (w41.heap[gb225]? = some (.cells #[.slice none 0 0] 30 (0, 0))) := ⟨by rw [← hq_]; exact (bk BK225)⟩; have n2_ : Aside0 (Below w.heap.size w w41) := ⟨by rw [← hq_]; exact (hS)⟩; clear BK224 BK225 HB hq_; have BK224 := n0_; have BK225 := n1_; have HB := n2_; clear n0_ n1_ n2_)); have hnb42 := NB225_224.out; have hnc42 := NB224_225.out; have hcz43_0 := bv BK225 0 (.slice none 0 0); have hfz43_0 := bz BK225 0))
 refine bodyPost_ret (results_ct rfl _ _ gb225 30 #[.slice none 0 0] (0, 0) _ rfl (bp #[.slice none 0 0] 0) Try.underlying30 rfl (by kernel_rfl)) rfl ?_
 exact ⟨_, er, by first | exact Kd.R_nil _ _ _ _ _ | exact Kd.N_nil _ _ _ _ _ | exact Kd.V_nil _ _ _ _ _ | exact Kd.Q_nil _ _ _ _ _ | exact Kd.S_nil _ _ _ _ _, hS⟩

/-! ### laws_big: function 33 -/
def laws_big.f (l0 : List Int) : Option (Bool) := some (decide ((l0.length : Int) > 1048576))
set_option maxHeartbeats 8000000 in
set_option maxRecDepth 100000 in
theorem laws_big.calls (A0 : Option Addr) (c0 : Nat) (l0 : List Int) (r : Bool) (w : World) (hr0 : Kd.C (Kd.int .u8) w A0 l0.length l0) (hc0 : l0.length ≤ c0) (h : laws_big.f l0 = some r) :
  Calls Try.prog 33 #[.slice A0 l0.length c0] w fun e w' => e = .returned (.bool r) ∧ Drawn0 w w' := by
 have HR0 := AM hr0
 have HC0 := AM hc0
 clear hr0 hc0
 have H : (some (decide ((l0.length : Int) > 1048576))) = some r := h
 clear h
 obtain rfl := Option.some.inj H
 go_enter Try.func33, Try.ntmps33
 go_wp2
 go_ret
 exact ⟨by first | rfl | (simp; done) | (simp [*]; done), by repeat (first | exact Drawn0.refl _ | apply Drawn0.step)⟩

/-- A state of type 97 at block g of W; what its slices lead to came in by w0. -/
def IsS97 (w0 W : World) (g : Nat) (f0 : List Int) (f1 : Int) (f2 : Int) : Prop := ∃ A0 c0, W.heap[g]? = some (.cells #[.slice A0 f0.length c0, .int .i64 f1, .int .i64 f2] 97 (0, 0)) ∧ w0.heap.size ≤ g ∧ Kd.C (Kd.int .u8) w0 A0 f0.length f0
theorem IsS97.grown {w0 W : World} {g : Nat} {f0 : List Int} {f1 : Int} {f2 : Int} {W1 : World} {row : Option Nat} (h : IsS97 w0 W g f0 f1 f2) (hw : W.grownBy W1 row) (hne : some g ≠ row) : IsS97 w0 W1 g f0 f1 f2 := by
 obtain ⟨A0, c0, hb, hg, hr0⟩ := h
 exact ⟨A0, c0, blk_grown hb hw hne, hg, hr0⟩
theorem IsS97.kept {w0 W : World} {g : Nat} {f0 : List Int} {f1 : Int} {f2 : Int} {W1 : World} {S : Nat → Prop} (h : IsS97 w0 W g f0 f1 f2) (hk : Kept W W1 S) (hne : ¬ S g) : IsS97 w0 W1 g f0 f1 f2 := by
 obtain ⟨A0, c0, hb, hg, hr0⟩ := h
 exact ⟨A0, c0, blk_kept hb hk hne, hg, hr0⟩
theorem IsS97.below {w0 W : World} {g : Nat} {f0 : List Int} {f1 : Int} {f2 : Int} {W1 : World} (h : IsS97 w0 W g f0 f1 f2) (hw : Below W.heap.size W W1) : IsS97 w0 W1 g f0 f1 f2 := h.grown (grown_of_below hw none) (by simp)
theorem IsS97.alloc {w0 W : World} {g : Nat} {f0 : List Int} {f1 : Int} {f2 : Int} (h : IsS97 w0 W g f0 f1 f2) (o : Obj) : IsS97 w0 (W.alloc o) g f0 f1 f2 := h.below (below_alloc (Below.refl _ _) o)
theorem IsS97.drewN {w0 W : World} {g : Nat} {f0 : List Int} {f1 : Int} {f2 : Int} (h : IsS97 w0 W g f0 f1 f2) (m : Nat) : IsS97 w0 (W.drewN m) g f0 f1 f2 := h
theorem IsS97.drew {w0 W : World} {g : Nat} {f0 : List Int} {f1 : Int} {f2 : Int} (h : IsS97 w0 W g f0 f1 f2) : IsS97 w0 W.drew g f0 f1 f2 := h
theorem IsS97.at_ {w0 W : World} {g : Nat} {f0 : List Int} {f1 : Int} {f2 : Int} {w' : World} {m : Nat} (hq : W.drewN m = w') (h : IsS97 w0 W g f0 f1 f2) : IsS97 w0 w' g f0 f1 f2 := by subst hq; exact IsS97.drewN h m
theorem IsS97.apart {w0 W : World} {g : Nat} {f0 : List Int} {f1 : Int} {f2 : Int} {α : Type} {d : Kd α} {e : Nat} {base : Nat} {ok : Nat → Prop} {v : Value} {xs : List α} (h : IsS97 w0 W g f0 f1 f2) (ho : d.R e W base ok v xs) (ht : ∀ q, q ∈ e :: d.E → q ≠ 97) : d.R e W base (fun k => ok k ∧ k ≠ g) v xs := by
 obtain ⟨A0, c0, hb, hg, hr0⟩ := h
 exact Kd.R_types ho hb ht
theorem IsS97.own_ne {w0 W : World} {g : Nat} {f0 : List Int} {f1 : Int} {f2 : Int} {α : Type} {d : Kd α} {e : Nat} {base : Nat} {ok : Nat → Prop} {v : Value} {xs : List α} (h : IsS97 w0 W g f0 f1 f2) (ho : d.R e W base ok v xs) (ht : e ≠ 97) : some g ≠ v.ownBlock := by
 obtain ⟨A0, c0, hb, hg, hr0⟩ := h
 exact Kd.R_ne ho hb ht
theorem IsS97.lt {w0 W : World} {g : Nat} {f0 : List Int} {f1 : Int} {f2 : Int} (h : IsS97 w0 W g f0 f1 f2) : g < W.heap.size := by
 obtain ⟨A0, c0, hb, hg, hr0⟩ := h
 exact blk_lt hb
theorem IsS97.ge {w0 W : World} {g : Nat} {f0 : List Int} {f1 : Int} {f2 : Int} (h : IsS97 w0 W g f0 f1 f2) : w0.heap.size ≤ g := by
 obtain ⟨A0, c0, hb, hg, hr0⟩ := h
 exact hg
theorem IsS97.ne_blk {w0 W : World} {g : Nat} {f0 : List Int} {f1 : Int} {f2 : Int} {a : Nat} {cs : Array Value} {t : TypeId} {fr : Nat × Nat} (h : IsS97 w0 W g f0 f1 f2) (hb2 : W.heap[a]? = some (.cells cs t fr)) (ht : t ≠ 97) : g ≠ a := by
 obtain ⟨A0, c0, hb, hg, hr0⟩ := h
 rintro rfl
 rw [hb] at hb2
 injection hb2 with hb2
 injection hb2 with _ ht2
 exact ht ht2.symm
theorem IsS97.far {w0 W : World} {g : Nat} {f0 : List Int} {f1 : Int} {f2 : Int} {p : Addr} (h : IsS97 w0 W g f0 f1 f2) (hne : g ≠ p.block) (u : Value) : IsS97 w0 (W.setCell p u) g f0 f1 f2 := by
 obtain ⟨A0, c0, hb, hg, hr0⟩ := h
 exact ⟨A0, c0, blk_far hb hne u, hg, hr0⟩
theorem cellS97_0 {W : World} {g : Nat} {A0 : Option Addr} {c0 : Nat} {f0 : List Int} {f1 : Int} {f2 : Int} (h : W.heap[g]? = some (.cells #[.slice A0 f0.length c0, .int .i64 f1, .int .i64 f2] 97 (0, 0))) : W.cell? ⟨g, 0, none⟩ = some (.slice A0 f0.length c0) := (blk_cell h 0).trans rfl
theorem cellS97_1 {W : World} {g : Nat} {A0 : Option Addr} {c0 : Nat} {f0 : List Int} {f1 : Int} {f2 : Int} (h : W.heap[g]? = some (.cells #[.slice A0 f0.length c0, .int .i64 f1, .int .i64 f2] 97 (0, 0))) : W.cell? ⟨g, 1, none⟩ = some (.int .i64 f1) := (blk_cell h 1).trans rfl
theorem IsS97.set_1 {w0 W : World} {g : Nat} {f0 : List Int} {f1 : Int} {f2 : Int} (h : IsS97 w0 W g f0 f1 f2) (x : Int) : IsS97 w0 (W.setCell ⟨g, 1, none⟩ (.int .i64 x)) g f0 x f2 := by
 obtain ⟨A0, c0, hb, hg, hr0⟩ := h
 exact ⟨A0, c0, by simpa using blk_set hb 1 (.int .i64 x), hg, hr0⟩
theorem cellS97_2 {W : World} {g : Nat} {A0 : Option Addr} {c0 : Nat} {f0 : List Int} {f1 : Int} {f2 : Int} (h : W.heap[g]? = some (.cells #[.slice A0 f0.length c0, .int .i64 f1, .int .i64 f2] 97 (0, 0))) : W.cell? ⟨g, 2, none⟩ = some (.int .i64 f2) := (blk_cell h 2).trans rfl
theorem IsS97.set_2 {w0 W : World} {g : Nat} {f0 : List Int} {f1 : Int} {f2 : Int} (h : IsS97 w0 W g f0 f1 f2) (x : Int) : IsS97 w0 (W.setCell ⟨g, 2, none⟩ (.int .i64 x)) g f0 f1 x := by
 obtain ⟨A0, c0, hb, hg, hr0⟩ := h
 exact ⟨A0, c0, by simpa using blk_set hb 2 (.int .i64 x), hg, hr0⟩
theorem IsS97.new (w0 W : World) (A0 : Option Addr) (c0 : Nat) (f0 : List Int) (f1 : Int) (f2 : Int) (hB : Below w0.heap.size w0 W) (hr0 : Kd.C (Kd.int .u8) w0 A0 f0.length f0) : IsS97 w0 (W.alloc (.cells #[.slice A0 f0.length c0, .int .i64 f1, .int .i64 f2] 97)) W.heap.size f0 f1 f2 := ⟨A0, c0, by simpa using heap_alloc_new W _, hB.size, hr0⟩

/-! ### spec_l01New: function 59 -/
def spec_l01New.l0 : Nat → List Int → Int → Int → Option (List Int × Int × Int)
 | 0, _, _, _ => none
 | k + 1, x0, x3, x4 => if x4 < (x0.length : Int) then (if x4 < 4000 then (if 0 ≤ x4 then (spec_l01New.l0 k x0 (Go.bits .and .i64 (wrap64 ((wrap64 ((wrap64 (x3 * 131)) + (wrap64 (rd x0 x4)))) + 7)) 1073741823) (wrap64 (x4 + 1))) else (none)) else (some (x0, 0, x3))) else (some (x0, 0, x3))
def spec_l01New.f (k : Nat) (l0 : List Int) : Option (List Int × Int × Int) := spec_l01New.l0 k l0 (wrap64 (36801 + (l0.length : Int))) 0
theorem spec_l01New.mono_l : ∀ k, (∀ y0 y1 y2, LeO (spec_l01New.l0 k y0 y1 y2) (spec_l01New.l0 (k + 1) y0 y1 y2))
 | 0 => fun _ _ _ r h => by simp [spec_l01New.l0] at h
 | k + 1 => by
  have ih0 := spec_l01New.mono_l k
  intro y0 y1 y2
  unfold spec_l01New.l0
  repeat' first
  | (with_reducible exact LeO.refl _)
  | (with_reducible refine LeO.ite ?_ ?_)
  | (with_reducible refine LeO.bind ?_ (fun _ => ?_))
  | exact ih0 _ _ _
  | exact LeO.none _
  | refine LeO.ite ?_ ?_
  | refine LeO.bind ?_ (fun _ => ?_)
theorem spec_l01New.mono : ∀ a0 k, LeO (spec_l01New.f k a0) (spec_l01New.f (k + 1) a0) := by
 intro a0 k
 have ih0 := spec_l01New.mono_l k
 unfold spec_l01New.f
 repeat' first
   | (with_reducible exact LeO.refl _)
   | (with_reducible refine LeO.ite ?_ ?_)
   | (with_reducible refine LeO.bind ?_ (fun _ => ?_))
   | exact ih0 _ _ _
   | exact LeO.none _
   | refine LeO.ite ?_ ?_
   | refine LeO.bind ?_ (fun _ => ?_)
set_option maxHeartbeats 8000000 in
set_option maxRecDepth 100000 in
theorem spec_l01New.calls (k : Nat) (A0 : Option Addr) (c0 : Nat) (l0 : List Int) (r1 : List Int) (r2 : Int) (r3 : Int) (w0 w : World) (hB : Below w0.heap.size w0 w) (hr0 : Kd.C (Kd.int .u8) w0 A0 l0.length l0) (hc0 : l0.length ≤ c0) (h : spec_l01New.f k l0 = some (r1, r2, r3)) :
  Calls Try.prog 59 #[.slice A0 l0.length c0] w fun e w' => ∃ g_ : Nat, e = .returned (.pointer (some ⟨g_, 0, none⟩)) ∧ IsS97 w0 w' g_ r1 r2 r3 ∧ Below w0.heap.size w0 w' ∧ Below w.heap.size w w' := by
 have hu97 := Try.underlying97
 have HR0 := AM hr0
 have HC0 := AM hc0
 clear hr0 hc0
 have HBW := AM (Below.refl w.heap.size w)
 have HW0 := AM hB.size
 have HB := AM hB
 clear hB
 have H : (spec_l01New.l0 k l0 (wrap64 (36801 + (l0.length : Int))) 0) = some (r1, r2, r3) := h
 clear h
 have H' := AM H
 clear H
 go_enter Try.func59, Try.ntmps59
 go_wp2
 go_loopg [3, 4] k (fun kq v3 v4 w' => ∃ (x3_1 : Int) (x4_1 : Int), v3 = .int .i64 x3_1 ∧ v4 = .int .i64 x4_1 ∧ Aside0 (spec_l01New.l0 kq l0 x3_1 x4_1 = some (r1, r2, r3)) ∧ Aside0 (kq ≤ k) ∧ Aside0 (Below w0.heap.size w0 w') ∧ Aside0 (Below w.heap.size w w'))
 case atStart => exact ⟨(wrap64 (36801 + (l0.length : Int))), (0), sf, sf, H', ⟨Nat.le_refl _⟩, ⟨hB HB⟩, ⟨by repeat (first | (with_reducible first | exact HBW.out | apply below_alloc | apply pw_below_drewN | apply below_drew1) | exact HBW.out)⟩⟩
 clear H'
 obtain ⟨x3_1, x4_1, rfl, rfl, HA, HK1, HB, HBW⟩ := hrel
 cases gk with
 | zero => exact absurd HA.out (by simp [spec_l01New.l0])
 | succ k1 =>
  have H := HA.out
  clear HA
  simp only [spec_l01New.l0] at H
  by_cases c2 : x4_1 < (l0.length : Int)
  ·rw [if_pos c2] at H
   have c2b0 : decide (x4_1 < (l0.length : Int)) = true := decide_eq_true c2
   clear c2
   by_cases c3 : x4_1 < 4000
   ·rw [if_pos c3] at H
    have c3b0 : decide (x4_1 < 4000) = true := decide_eq_true c3
    clear c3
    by_cases c4 : 0 ≤ x4_1
    ·rw [if_pos c4] at H
     have c4b0 : decide (0 ≤ x4_1) = true := decide_eq_true c4
     clear c4
     have H' := AM H
     clear H
     have p240 : 0 ≤ (x4_1 : Int) := od
     have q240 : x4_1 < (l0.length : Int) := od
     obtain ⟨ad240, e240, hx240_0⟩ := Kd.at_int HR0.out x4_1 p240 q240
     cases e240
     replace hx240_0 := pw_cell_below HB.out hx240_0
     replace p240 := eq_true p240
     replace q240 := eq_true q240
     go_wp2
     go_roundg k1
     case measure => have := HK1.out; omega
     case rel => exact ⟨(Go.bits .and .i64 (wrap64 ((wrap64 ((wrap64 (x3_1 * 131)) + (wrap64 (rd l0 x4_1)))) + 7)) 1073741823), (wrap64 (x4_1 + 1)), sf, sf, H', ⟨by have := HK1.out; omega⟩, ⟨hB HB⟩, ⟨by repeat (first | (with_reducible first | exact HBW.out | apply below_alloc | apply pw_below_drewN | apply below_drew1) | exact HBW.out)⟩⟩
    rw [if_neg c4] at H
    exact absurd H (by simp)
   rw [if_neg c3] at H
   have c3b0 : decide (x4_1 < 4000) = false := decide_eq_false c3
   clear c3
   simp only [Option.some.injEq, Prod.mk.injEq] at H
   obtain ⟨rfl, rfl, rfl⟩ := H
   go_wp2_with (first | ((with_reducible refine gd 31 rfl ?_); refine bx (N := 31) (cs := #[.slice A0 l0.length c0, .int .i64 0, .int .i64 x3_1]) (t := 97) ?_; intro gb241 hg w5 hbox hb; replace HB := bq HB hb; have BK241 := AM (hbox); have GW241 := AM ((by rw [hg]; exact (below_size (by repeat (first | (with_reducible first | exact HBW.out | apply bA | apply bN | apply bD) | exact HBW.out))) : w.heap.size ≤ gb241)); have GE241 := AM ((Nat.le_trans HW0.out (by rw [hg]; exact (below_size (by repeat (first | (with_reducible first | exact HBW.out | apply bA | apply bN | apply bD) | exact HBW.out))) : w.heap.size ≤ gb241) : w0.heap.size ≤ gb241)); replace HBW := AM (below_step HBW.out hb); clear hb hbox hg))
   go_ret
   exact ⟨_, rfl, (show IsS97 w0 _ gb241 l0 0 x3_1 from ⟨_, _, bk BK241, GE241.out, HR0.out⟩), hS, by repeat (first | (with_reducible first | exact HBW.out | apply bA | apply bN | apply bD | refine below_set ?_ GW241.out) | exact HBW.out)⟩
  rw [if_neg c2] at H
  have c2b0 : decide (x4_1 < (l0.length : Int)) = false := decide_eq_false c2
  clear c2
  simp only [Option.some.injEq, Prod.mk.injEq] at H
  obtain ⟨rfl, rfl, rfl⟩ := H
  go_wp2_with (first | ((with_reducible refine gd 31 rfl ?_); refine bx (N := 31) (cs := #[.slice A0 l0.length c0, .int .i64 0, .int .i64 x3_1]) (t := 97) ?_; intro gb242 hg w6 hbox hb; replace HB := bq HB hb; have BK242 := AM (hbox); have GW242 := AM ((by rw [hg]; exact (below_size (by repeat (first | (with_reducible first | exact HBW.out | apply bA | apply bN | apply bD) | exact HBW.out))) : w.heap.size ≤ gb242)); have GE242 := AM ((Nat.le_trans HW0.out (by rw [hg]; exact (below_size (by repeat (first | (with_reducible first | exact HBW.out | apply bA | apply bN | apply bD) | exact HBW.out))) : w.heap.size ≤ gb242) : w0.heap.size ≤ gb242)); replace HBW := AM (below_step HBW.out hb); clear hb hbox hg))
  go_ret
  exact ⟨_, rfl, (show IsS97 w0 _ gb242 l0 0 x3_1 from ⟨_, _, bk BK242, GE242.out, HR0.out⟩), hS, by repeat (first | (with_reducible first | exact HBW.out | apply bA | apply bN | apply bD | refine below_set ?_ GW242.out) | exact HBW.out)⟩

/-! ### spec_l01Byte: function 82 -/
def spec_l01Byte.f (s0_0 : List Int) (s0_1 : Int) (s0_2 : Int) : Option (Int × Int × Int) := if s0_1 < (s0_0.length : Int) then (if 0 ≤ s0_1 then (some (Go.bits .and .i64 (wrap64 ((Go.bits .and .i64 (Go.bits .xor .i64 ((wrap64 ((wrap64 (s0_2 * 6364136223846793005)) + 1442695040888963407)) / 8589934592) ((wrap64 ((wrap64 (s0_2 * 6364136223846793005)) + 1442695040888963407)) / 35184372088832)) 255) + (wrap64 (rd s0_0 s0_1)))) 255, wrap64 (s0_1 + 1), wrap64 ((wrap64 (s0_2 * 6364136223846793005)) + 1442695040888963407))) else (none)) else (some (Go.bits .and .i64 (Go.bits .xor .i64 ((wrap64 ((wrap64 (s0_2 * 6364136223846793005)) + 1442695040888963407)) / 8589934592) ((wrap64 ((wrap64 (s0_2 * 6364136223846793005)) + 1442695040888963407)) / 35184372088832)) 255, s0_1, wrap64 ((wrap64 (s0_2 * 6364136223846793005)) + 1442695040888963407)))
set_option maxHeartbeats 8000000 in
set_option maxRecDepth 100000 in
theorem spec_l01Byte.calls (g : Nat) (s0_0 : List Int) (s0_1 : Int) (s0_2 : Int) (r1 : Int) (r2 : Int) (r3 : Int) (w0 w : World) (hI : IsS97 w0 w g s0_0 s0_1 s0_2) (hB : Below w0.heap.size w0 w) (h : spec_l01Byte.f s0_0 s0_1 s0_2 = some (r1, r2, r3)) :
  Calls Try.prog 82 #[.pointer (some ⟨g, 0, none⟩)] w fun e w' => e = .returned (.int .i64 r1) ∧ IsS97 w0 w' g s0_0 r2 r3 ∧ Below w0.heap.size w0 w' ∧ KeepBut w w' g none := by
 have HI0 := AM hI
 have HK := AM (KeepBut.refl w g none)
 have HL := AM hB.size
 clear hI
 have HW0 := AM hB.size
 have HB := AM hB
 clear hB
 have H : (if s0_1 < (s0_0.length : Int) then (if 0 ≤ s0_1 then (some (Go.bits .and .i64 (wrap64 ((Go.bits .and .i64 (Go.bits .xor .i64 ((wrap64 ((wrap64 (s0_2 * 6364136223846793005)) + 1442695040888963407)) / 8589934592) ((wrap64 ((wrap64 (s0_2 * 6364136223846793005)) + 1442695040888963407)) / 35184372088832)) 255) + (wrap64 (rd s0_0 s0_1)))) 255, wrap64 (s0_1 + 1), wrap64 ((wrap64 (s0_2 * 6364136223846793005)) + 1442695040888963407))) else (none)) else (some (Go.bits .and .i64 (Go.bits .xor .i64 ((wrap64 ((wrap64 (s0_2 * 6364136223846793005)) + 1442695040888963407)) / 8589934592) ((wrap64 ((wrap64 (s0_2 * 6364136223846793005)) + 1442695040888963407)) / 35184372088832)) 255, s0_1, wrap64 ((wrap64 (s0_2 * 6364136223846793005)) + 1442695040888963407)))) = some (r1, r2, r3) := h
 clear h
 by_cases c2 : s0_1 < (s0_0.length : Int)
 ·rw [if_pos c2] at H
  have c2b0 : decide (s0_1 < (s0_0.length : Int)) = true := decide_eq_true c2
  clear c2
  by_cases c3 : 0 ≤ s0_1
  ·rw [if_pos c3] at H
   have c3b0 : decide (0 ≤ s0_1) = true := decide_eq_true c3
   clear c3
   simp only [Option.some.injEq, Prod.mk.injEq] at H
   obtain ⟨rfl, rfl, rfl⟩ := H
   obtain ⟨ASz4_0, cSz4_0, HGz4, hgz4, HSz4_0⟩ := HI0.out
   have hcz4_0 := cellS97_0 HGz4
   have hcz4_1 := cellS97_1 HGz4
   have hcz4_2 := cellS97_2 HGz4
   have hfz4_1 := blk_frozen HGz4 1
   have hfz4_2 := blk_frozen HGz4 2
   clear HGz4 hgz4
   have p243 : 0 ≤ (s0_1 : Int) := od
   have q243 : s0_1 < (s0_0.length : Int) := od
   obtain ⟨ad243, e243, hx243_0⟩ := Kd.at_int HSz4_0 s0_1 p243 q243
   cases e243
   have hn243_0 : ad243.block ≠ g := Nat.ne_of_lt (Nat.lt_of_lt_of_le (by have := World.block_lt_of_cell? _ _ hx243_0; first | rwa [add_block] at this | exact this) (IsS97.ge HI0.out))
   replace hx243_0 := pw_cell_below HB.out hx243_0
   replace hx243_0 := (cell_far (p := ⟨g, 2, none⟩) (by first | (rw [add_block]; exact hn243_0) | (show (Addr.add _ _).block ≠ _; rw [add_block]; exact hn243_0) | exact hn243_0) (.int .i64 (wrap64 ((wrap64 (s0_2 * 6364136223846793005)) + 1442695040888963407)))).trans hx243_0
   (try have hy243_0 := fun (n_ : Nat) => (show (((w.drewN n_).setCell ⟨g, 2, none⟩ (.int .i64 (wrap64 ((wrap64 (s0_2 * 6364136223846793005)) + 1442695040888963407))))).cell? _ = some _ from hx243_0))
   clear hn243_0
   replace p243 := eq_true p243
   replace q243 := eq_true q243
   go_enter Try.func82, Try.ntmps82
   go_wp2
   repeat (go_quiet (fail); try go_wp2)
   go_ret
   exact ⟨er, sI, hI, kI⟩
  rw [if_neg c3] at H
  exact absurd H (by simp)
 rw [if_neg c2] at H
 have c2b0 : decide (s0_1 < (s0_0.length : Int)) = false := decide_eq_false c2
 clear c2
 simp only [Option.some.injEq, Prod.mk.injEq] at H
 obtain ⟨rfl, rfl, rfl⟩ := H
 obtain ⟨ASz5_0, cSz5_0, HGz5, hgz5, HSz5_0⟩ := HI0.out
 have hcz5_0 := cellS97_0 HGz5
 have hcz5_1 := cellS97_1 HGz5
 have hcz5_2 := cellS97_2 HGz5
 have hfz5_1 := blk_frozen HGz5 1
 have hfz5_2 := blk_frozen HGz5 2
 clear HGz5 hgz5
 go_enter Try.func82, Try.ntmps82
 go_wp2
 repeat (go_quiet (fail); try go_wp2)
 go_ret
 exact ⟨er, sI, hI, kI⟩

/-! ### spec_l01Below: function 71 -/
def spec_l01Below.f (s0_0 : List Int) (s0_1 : Int) (s0_2 : Int) (a1 : Int) : Option (Int × Int × Int) := if a1 ≤ 0 then (some (0, s0_1, s0_2)) else (if a1 ≤ 256 then ((spec_l01Byte.f s0_0 s0_1 s0_2).bind fun bt244 => (if a1 = 0 then (none) else (some (Int.tmod bt244.1 a1, bt244.2.1, bt244.2.2)))) else ((spec_l01Byte.f s0_0 s0_1 s0_2).bind fun bt247 => ((spec_l01Byte.f s0_0 bt247.2.1 bt247.2.2).bind fun bt250 => ((spec_l01Byte.f s0_0 bt250.2.1 bt250.2.2).bind fun bt253 => ((spec_l01Byte.f s0_0 bt253.2.1 bt253.2.2).bind fun bt256 => (if a1 = 0 then (none) else (some (Int.tmod (wrap64 ((wrap64 ((wrap64 ((wrap64 (bt247.1 * 16777216)) + (wrap64 (bt250.1 * 65536)))) + (wrap64 (bt253.1 * 256)))) + bt256.1)) a1, bt256.2.1, bt256.2.2))))))))
set_option maxHeartbeats 8000000 in
set_option maxRecDepth 100000 in
theorem spec_l01Below.calls (g : Nat) (s0_0 : List Int) (s0_1 : Int) (s0_2 : Int) (a1 : Int) (r1 : Int) (r2 : Int) (r3 : Int) (w0 w : World) (hI : IsS97 w0 w g s0_0 s0_1 s0_2) (hB : Below w0.heap.size w0 w) (h : spec_l01Below.f s0_0 s0_1 s0_2 a1 = some (r1, r2, r3)) :
  Calls Try.prog 71 #[.pointer (some ⟨g, 0, none⟩), .int .i64 a1] w fun e w' => e = .returned (.int .i64 r1) ∧ IsS97 w0 w' g s0_0 r2 r3 ∧ Below w0.heap.size w0 w' ∧ KeepBut w w' g none := by
 have HI0 := AM hI
 have HK := AM (KeepBut.refl w g none)
 have HL := AM hB.size
 clear hI
 have HW0 := AM hB.size
 have HB := AM hB
 clear hB
 have H : (if a1 ≤ 0 then (some (0, s0_1, s0_2)) else (if a1 ≤ 256 then ((spec_l01Byte.f s0_0 s0_1 s0_2).bind fun bt244 => (if a1 = 0 then (none) else (some (Int.tmod bt244.1 a1, bt244.2.1, bt244.2.2)))) else ((spec_l01Byte.f s0_0 s0_1 s0_2).bind fun bt247 => ((spec_l01Byte.f s0_0 bt247.2.1 bt247.2.2).bind fun bt250 => ((spec_l01Byte.f s0_0 bt250.2.1 bt250.2.2).bind fun bt253 => ((spec_l01Byte.f s0_0 bt253.2.1 bt253.2.2).bind fun bt256 => (if a1 = 0 then (none) else (some (Int.tmod (wrap64 ((wrap64 ((wrap64 ((wrap64 (bt247.1 * 16777216)) + (wrap64 (bt250.1 * 65536)))) + (wrap64 (bt253.1 * 256)))) + bt256.1)) a1, bt256.2.1, bt256.2.2))))))))) = some (r1, r2, r3) := h
 clear h
 by_cases c3 : a1 ≤ 0
 ·rw [if_pos c3] at H
  have c3b0 : decide (a1 ≤ 0) = true := decide_eq_true c3
  clear c3
  simp only [Option.some.injEq, Prod.mk.injEq] at H
  obtain ⟨rfl, rfl, rfl⟩ := H
  go_enter Try.func71, Try.ntmps71
  go_wp2
  go_ret
  exact ⟨er, sI, hI, kI⟩
 rw [if_neg c3] at H
 have c3b0 : decide (a1 ≤ 0) = false := decide_eq_false c3
 clear c3
 by_cases c4 : a1 ≤ 256
 ·rw [if_pos c4] at H
  have c4b0 : decide (a1 ≤ 256) = true := decide_eq_true c4
  clear c4
  replace H := bm H
  obtain ⟨⟨t244, t245, t246⟩, A50, H⟩ := H
  replace H : (if a1 = 0 then (none) else (some (Int.tmod t244 a1, t245, t246))) = some (r1, r2, r3) := H
  have A5 := AM A50
  clear A50
  by_cases c6 : a1 = 0
  ·rw [if_pos c6] at H
   exact absurd H (by simp)
  rw [if_neg c6] at H
  have c6b0 : (a1 == 0) = false := beq_eq_false_iff_ne.mpr c6
  have c6b1 : (a1 != 0) = true := bne_iff_ne.mpr c6
  simp only [Option.some.injEq, Prod.mk.injEq] at H
  obtain ⟨rfl, rfl, rfl⟩ := H
  go_enter Try.func71, Try.ntmps71
  go_wp2_with (first | ((with_reducible refine gc 82 rfl ?_); refine gl 14 Try.func82 #[.pointer (some ⟨g, 0, none⟩)] ?_; (with_reducible refine (spec_l01Byte.calls g s0_0 s0_1 s0_2 t244 t245 t246 w0 _ ?side1 ?side2 A5.out).mono ?_); (case side1 => exact sI); (case side2 => exact hI); rintro e w7 ⟨rfl, hi, hb, hk⟩; refine ⟨_, rfl, ?_⟩; replace HK := AM (KeepBut.trans (kI) hk (.inl rfl)); replace HB := AM (hb); replace HI0 := AM (hi); (try clear hb); (try clear hk); (try clear hi)))
  go_ret
  exact ⟨er, sI, hI, kI⟩
 rw [if_neg c4] at H
 have c4b0 : decide (a1 ≤ 256) = false := decide_eq_false c4
 clear c4
 replace H := bm H
 obtain ⟨⟨t247, t248, t249⟩, A80, H⟩ := H
 replace H : ((spec_l01Byte.f s0_0 t248 t249).bind fun bt250 => ((spec_l01Byte.f s0_0 bt250.2.1 bt250.2.2).bind fun bt253 => ((spec_l01Byte.f s0_0 bt253.2.1 bt253.2.2).bind fun bt256 => (if a1 = 0 then (none) else (some (Int.tmod (wrap64 ((wrap64 ((wrap64 ((wrap64 (t247 * 16777216)) + (wrap64 (bt250.1 * 65536)))) + (wrap64 (bt253.1 * 256)))) + bt256.1)) a1, bt256.2.1, bt256.2.2)))))) = some (r1, r2, r3) := H
 have A8 := AM A80
 clear A80
 replace H := bm H
 obtain ⟨⟨t250, t251, t252⟩, A90, H⟩ := H
 replace H : ((spec_l01Byte.f s0_0 t251 t252).bind fun bt253 => ((spec_l01Byte.f s0_0 bt253.2.1 bt253.2.2).bind fun bt256 => (if a1 = 0 then (none) else (some (Int.tmod (wrap64 ((wrap64 ((wrap64 ((wrap64 (t247 * 16777216)) + (wrap64 (t250 * 65536)))) + (wrap64 (bt253.1 * 256)))) + bt256.1)) a1, bt256.2.1, bt256.2.2))))) = some (r1, r2, r3) := H
 have A9 := AM A90
 clear A90
 replace H := bm H
 obtain ⟨⟨t253, t254, t255⟩, A100, H⟩ := H
 replace H : ((spec_l01Byte.f s0_0 t254 t255).bind fun bt256 => (if a1 = 0 then (none) else (some (Int.tmod (wrap64 ((wrap64 ((wrap64 ((wrap64 (t247 * 16777216)) + (wrap64 (t250 * 65536)))) + (wrap64 (t253 * 256)))) + bt256.1)) a1, bt256.2.1, bt256.2.2)))) = some (r1, r2, r3) := H
 have A10 := AM A100
 clear A100
 replace H := bm H
 obtain ⟨⟨t256, t257, t258⟩, A110, H⟩ := H
 replace H : (if a1 = 0 then (none) else (some (Int.tmod (wrap64 ((wrap64 ((wrap64 ((wrap64 (t247 * 16777216)) + (wrap64 (t250 * 65536)))) + (wrap64 (t253 * 256)))) + t256)) a1, t257, t258))) = some (r1, r2, r3) := H
 have A11 := AM A110
 clear A110
 by_cases c12 : a1 = 0
 ·rw [if_pos c12] at H
  exact absurd H (by simp)
 rw [if_neg c12] at H
 have c12b0 : (a1 == 0) = false := beq_eq_false_iff_ne.mpr c12
 have c12b1 : (a1 != 0) = true := bne_iff_ne.mpr c12
 simp only [Option.some.injEq, Prod.mk.injEq] at H
 obtain ⟨rfl, rfl, rfl⟩ := H
 go_enter Try.func71, Try.ntmps71
 go_wp2_with (first | ((with_reducible refine gc 82 rfl ?_); refine gl 18 Try.func82 #[.pointer (some ⟨g, 0, none⟩)] ?_; (with_reducible refine (spec_l01Byte.calls g s0_0 s0_1 s0_2 t247 t248 t249 w0 _ ?side1 ?side2 A8.out).mono ?_); (case side1 => exact sI); (case side2 => exact hI); rintro e w13 ⟨rfl, hi, hb, hk⟩; refine ⟨_, rfl, ?_⟩; replace HK := AM (KeepBut.trans (kI) hk (.inl rfl)); replace HB := AM (hb); replace HI0 := AM (hi); (try clear hb); (try clear hk); (try clear hi)) | ((with_reducible refine gc 82 rfl ?_); refine gl 20 Try.func82 #[.pointer (some ⟨g, 0, none⟩)] ?_; (with_reducible refine (spec_l01Byte.calls g s0_0 t248 t249 t250 t251 t252 w0 _ ?side1 ?side2 A9.out).mono ?_); (case side1 => exact sI); (case side2 => exact hI); rintro e w14 ⟨rfl, hi, hb, hk⟩; refine ⟨_, rfl, ?_⟩; replace HK := AM (KeepBut.trans (kI) hk (.inl rfl)); replace HB := AM (hb); replace HI0 := AM (hi); (try clear hb); (try clear hk); (try clear hi)) | ((with_reducible refine gc 82 rfl ?_); refine gl 22 Try.func82 #[.pointer (some ⟨g, 0, none⟩)] ?_; (with_reducible refine (spec_l01Byte.calls g s0_0 t251 t252 t253 t254 t255 w0 _ ?side1 ?side2 A10.out).mono ?_); (case side1 => exact sI); (case side2 => exact hI); rintro e w15 ⟨rfl, hi, hb, hk⟩; refine ⟨_, rfl, ?_⟩; replace HK := AM (KeepBut.trans (kI) hk (.inl rfl)); replace HB := AM (hb); replace HI0 := AM (hi); (try clear hb); (try clear hk); (try clear hi)) | ((with_reducible refine gc 82 rfl ?_); refine gl 24 Try.func82 #[.pointer (some ⟨g, 0, none⟩)] ?_; (with_reducible refine (spec_l01Byte.calls g s0_0 t254 t255 t256 t257 t258 w0 _ ?side1 ?side2 A11.out).mono ?_); (case side1 => exact sI); (case side2 => exact hI); rintro e w16 ⟨rfl, hi, hb, hk⟩; refine ⟨_, rfl, ?_⟩; replace HK := AM (KeepBut.trans (kI) hk (.inl rfl)); replace HB := AM (hb); replace HI0 := AM (hi); (try clear hb); (try clear hk); (try clear hi)))
 go_ret
 exact ⟨er, sI, hI, kI⟩

end Go.Proofs.Ytnkldnkolcighaa.XFnActs
