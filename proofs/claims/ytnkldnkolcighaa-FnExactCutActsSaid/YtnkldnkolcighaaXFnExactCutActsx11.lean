/- What the functions of a law compute, and that their calls compute it: written by a program of this session (xprint.py), which turns the kit print at a few places. -/
import Derived.Test.YtnkldnkolcighaaXFnExactCutActsx0
import Derived.Test.YtnkldnkolcighaaXFnExactCutActsx5
import Derived.Test.YtnkldnkolcighaaXFnExactCutActsx9
import Derived.Test.YtnkldnkolcighaaXFnExactCutActsx10
namespace Go.Proofs.Ytnkldnkolcighaa.XFnExactCutActs
open Go.RowKit Go.Proofs.YtnkldnkolcighaaT.PrintWords Go.Proofs.YtnkldnkolcighaaT.PrintLast Go.Proofs.YtnkldnkolcighaaT.PrintMore
attribute [local go_sem] max2_int min2_int max_two min_two max_three min_three max_four min_four str_geq str_gtr   -- for this text's walks alone
set_option linter.unusedVariables false
set_option linter.unusedSimpArgs false

/-! ### spec_CutActs: function 28 -/
def spec_CutActs.f (k : Nat) (l0_0 : List (S67)) (l1 : List (S41)) (a2 : Int) (l3 : List Int) : Option ((List (S67)) × Bool) := (spec_l01In.f a2 0 (l1.length : Int)).bind fun t269 => (if t269 = true then (if 0 ≤ a2 then (if a2 ≤ (l1.length : Int) then ((spec_DoActs.f k l0_0 (l1.take (a2 : Int).toNat)).bind fun bt274 => (if bt274.2 < a2 then (some (([] : List (S67)), false)) else ((spec_LoseDisk.f k bt274.1 l3).bind fun bt279 => (some (bt279.1, bt279.2))))) else (none)) else (none)) else (some (([] : List (S67)), false)))
theorem spec_CutActs.mono : ∀ a0 a1 a2 a3 k, LeO (spec_CutActs.f k a0 a1 a2 a3) (spec_CutActs.f (k + 1) a0 a1 a2 a3) := by
 intro a0 a1 a2 a3 k
 unfold spec_CutActs.f
 repeat' first
   | (with_reducible exact LeO.refl _)
   | (with_reducible refine LeO.ite ?_ ?_)
   | (with_reducible refine LeO.bind ?_ (fun _ => ?_))
   | exact spec_DoActs.mono _ _ _
   | exact spec_LoseDisk.mono _ _ _
   | exact LeO.none _
   | refine LeO.ite ?_ ?_
   | refine LeO.bind ?_ (fun _ => ?_)
def spec_CutActs.T3 : Bool × List (List Nat × List Nat) := (true, [([], []), ([], []), ([], []), ([1, 2], [1, 2]), ([0, 3], [0, 3]), ([4], [4]), ([5], [5]), ([5], [5]), ([], []), ([8, 6, 4, 0, 1, 2, 3, 4, 5, 6, 8], [6, 8]), ([7, 9, 0, 1, 2, 3, 4, 5, 6, 7, 8, 9], [7])])
def spec_CutActs.B3 : List Nat := [0, 0, 0, 6, 15, 31, 63, 63, 0, 383, 1023]
theorem spec_CutActs.tab3 : rtab .any (opsOf Try.f28 3) = spec_CutActs.T3 := by kernel_rfl
theorem spec_CutActs.bits3 : waitsOk spec_CutActs.T3.2 spec_CutActs.B3 = true := by kernel_rfl
set_option maxHeartbeats 8000000 in
set_option maxRecDepth 100000 in
theorem spec_CutActs.calls (k : Nat) (A0_0 : Option Addr) (c0_0 : Nat) (l0_0 : List (S67)) (A1 : Option Addr) (c1 : Nat) (l1 : List (S41)) (a2 : Int) (A3 : Option Addr) (c3 : Nat) (l3 : List Int) (r1 : List (S67)) (r2 : Bool) (w : World) (hr0_0 : Kd.C k67 w A0_0 l0_0.length l0_0) (hc0_0 : l0_0.length ≤ c0_0) (hr1 : Kd.C k41 w A1 l1.length l1) (hc1 : l1.length ≤ c1) (hr3 : Kd.C (Kd.int .i64) w A3 l3.length l3) (hc3 : l3.length ≤ c3) (h : spec_CutActs.f k l0_0 l1 a2 l3 = some (r1, r2)) :
  Calls Try.prog 28 #[.agg #[.slice A0_0 l0_0.length c0_0], .slice A1 l1.length c1, .int .i64 a2, .slice A3 l3.length c3] w fun e w' => ∃ v0_ : Value, e = .returned (.tuple #[.agg #[v0_], .bool r2]) ∧ Kd.R k67 67 w' w.heap.size (fun _ => True) v0_ r1 ∧ Below w.heap.size w w' := by
 have hu30 := Try.underlying30
 have HR0_0 := AM hr0_0
 have HC0_0 := AM hc0_0
 clear hr0_0 hc0_0
 have HR1 := AM hr1
 have HC1 := AM hc1
 clear hr1 hc1
 have HR3 := AM hr3
 have HC3 := AM hc3
 clear hr3 hc3
 have HB := AM (Below.refl w.heap.size w)
 have H : ((spec_l01In.f a2 0 (l1.length : Int)).bind fun t269 => (if t269 = true then (if 0 ≤ a2 then (if a2 ≤ (l1.length : Int) then ((spec_DoActs.f k l0_0 (l1.take (a2 : Int).toNat)).bind fun bt274 => (if bt274.2 < a2 then (some (([] : List (S67)), false)) else ((spec_LoseDisk.f k bt274.1 l3).bind fun bt279 => (some (bt279.1, bt279.2))))) else (none)) else (none)) else (some (([] : List (S67)), false)))) = some (r1, r2) := h
 clear h
 replace H := bm H
 obtain ⟨t269, A50, H⟩ := H
 replace H : (if t269 = true then (if 0 ≤ a2 then (if a2 ≤ (l1.length : Int) then ((spec_DoActs.f k l0_0 (l1.take (a2 : Int).toNat)).bind fun bt274 => (if bt274.2 < a2 then (some (([] : List (S67)), false)) else ((spec_LoseDisk.f k bt274.1 l3).bind fun bt279 => (some (bt279.1, bt279.2))))) else (none)) else (none)) else (some (([] : List (S67)), false))) = some (r1, r2) := H
 have A5 := AM A50
 clear A50
 by_cases c6 : t269 = true
 ·subst c6
  have H1 : (if 0 ≤ a2 then (if a2 ≤ (l1.length : Int) then ((spec_DoActs.f k l0_0 (l1.take (a2 : Int).toNat)).bind fun bt274 => (if bt274.2 < a2 then (some (([] : List (S67)), false)) else ((spec_LoseDisk.f k bt274.1 l3).bind fun bt279 => (some (bt279.1, bt279.2))))) else (none)) else (none)) = some (r1, r2) := by rw [if_pos rfl] at H; exact H
  clear H
  have H := H1
  clear H1
  by_cases c7 : 0 ≤ a2
  ·rw [if_pos c7] at H
   have c7b0 := eq_true c7
   have c7b1 : decide (0 ≤ a2) = true := decide_eq_true c7
   clear c7
   by_cases c8 : a2 ≤ (l1.length : Int)
   ·rw [if_pos c8] at H
    have c8b0 := eq_true c8
    have c8b1 : decide (a2 ≤ (l1.length : Int)) = true := decide_eq_true c8
    clear c8
    obtain ⟨y270, hy270⟩ : ∃ y_ : List (S41), y_ = (l1.take (a2 : Int).toNat) := ⟨_, rfl⟩
    replace H : ((spec_DoActs.f k l0_0 y270).bind fun bt274 => (if bt274.2 < a2 then (some (([] : List (S67)), false)) else ((spec_LoseDisk.f k bt274.1 l3).bind fun bt279 => (some (bt279.1, bt279.2))))) = some (r1, r2) := by first | (rw [hy270]; with_reducible exact H) | (have H2_ := (Option.bind_some _ _).symm.trans H; rw [hy270]; with_reducible exact H2_) | (have H2_ := (Option.bind_some _ _).symm.trans H; with_reducible exact H2_) | with_reducible exact H | (rw [hy270]; exact H) | exact H
    have Ny270 := AM hy270
    clear hy270
    replace H := bm H
    obtain ⟨⟨t274, t277⟩, A90, H⟩ := H
    replace H : (if t277 < a2 then (some (([] : List (S67)), false)) else ((spec_LoseDisk.f k t274 l3).bind fun bt279 => (some (bt279.1, bt279.2)))) = some (r1, r2) := H
    have A9 := AM A90
    clear A90
    by_cases c10 : t277 < a2
    ·rw [if_pos c10] at H
     have c10b0 : decide (t277 < a2) = true := decide_eq_true c10
     clear c10
     simp only [Option.some.injEq, Prod.mk.injEq] at H
     obtain ⟨rfl, rfl⟩ := H
     go_enter Try.func28, Try.ntmps28
     try go_wp2_with (first | ((with_reducible refine gd 4 rfl ?_); refine bx (N := 4) (cs := #[.slice A0_0 l0_0.length c0_0]) (t := 30) ?_; intro gb267 hg w11 hbox hb; have BK267 := AM (hbox); have GW267 := AM (bs hg HB); have GE267 := AM (bs hg HB); replace HB := bq HB hb; clear hb hbox hg) | ((with_reducible refine gd 8 rfl ?_); refine bx (N := 8) (cs := #[.slice none 0 0]) (t := 30) ?_; intro gb268 hg w12 hbox hb; have BK268 := AM (hbox); have GW268 := AM (bt hg hS); have GE268 := AM (bt hg hS); replace HB := AM (below_step (hS) hb); have NB267_268 := AM (nl hg (bk BK267)); have NB268_267 := AM (ng hg (bk BK267)); replace BK267 := bw BK267 hb; clear hb hbox hg) | ((with_reducible refine gc 55 rfl ?_); refine goesL_ (some 15) rfl rfl Try.func55 (by kernel_rfl) rfl #[.int .i64 a2, .int .i64 0, .int .i64 (l1.length : Int)] rfl am ?_; (with_reducible refine (spec_l01In.calls a2 0 (l1.length : Int) true _ A5.out).mono ?_); rintro e w' ⟨rfl, ⟨nd, rfl⟩⟩; refine ⟨_, rfl, ?_⟩; (try (rw [drewN_self w12]; generalize hq_ : World.drewN w12 _ = w12; have n0_ : Aside0 (w12.heap[gb267]? = some (.cells #[.slice A0_0 l0_0.length c0_0] 30 (0, 0))) := ⟨by rw [← hq_]; exact (bk BK267)⟩; have n1_ : Aside0 (w12.heap[gb268]? = some (.cells #[.slice none 0 0] 30 (0, 0))) := ⟨by rw [← hq_]; exact (bk BK268)⟩; have n2_ : Aside0 (Below w.heap.size w w12) := ⟨by rw [← hq_]; exact (hS)⟩; clear BK267 BK268 HB hq_; have BK267 := n0_; have BK268 := n1_; have HB := n2_; clear n0_ n1_ n2_))))
     replace BK267 := AM (blk_drew BK267.out)
     replace BK268 := AM (blk_drew BK268.out)
     replace HB := AM (below_drew1 HB.out)
     have q14 : (a2 : Int) ≤ ((l1.length : Int) : Int) := od
     obtain ⟨i014, hi014, _, hsz14, _⟩ := info_parts info41
     have hroom14 : l1.length ≤ c1 := HC1.out
     have hC14 : Kd.C k41 _ A1 l1.length l1 := HR1.out
     have hcut14 := cut_to (P := Try.prog) 49 41 .i64 Try.underlying49 hi014 A1 l1.length c1 a2 (od) q14 hroom14
     have hr14 := Kd.C_take (m := (a2 : Int).toNat) hC14 (by omega)
     have hy14 : y270.length = (a2 : Int).toNat := (by rw [Ny270.out, List.length_take]; omega)
     rw [← Ny270.out] at hr14
     rw [← hy14] at hcut14
     have HR273 := AM hr14
     have HC273 := AM (show y270.length ≤ c1 from by omega)
     clear hr14 hC14 hroom14 hi014 hsz14
     have KY14 := AM hy14
     clear hy14
     replace q14 := eq_true q14
     refine start_ (n := 11) (S := fun w' => w'.cell? ⟨gb267, 0, none⟩ = some (.slice A0_0 l0_0.length c0_0)) (ds := []) #[false, false, false, false, false, false, false, false, false, false, false] (by kernel_rfl) rfl rfl (bc BK267 0) (fun hHeld => ?_); refine with_tabW spec_CutActs.tab3 spec_CutActs.bits3 (fun HT_ HW_ => ?_)
     generalize w12.drew = w13 at BK267 BK268 HB HR273 hHeld ⊢
     refine pure_ (i := 1) (N := some 20) (v := ?_) (a' := ?_) #[false, true, false, false, false, false, false, false, false, false, false] rfl rfl (any_of HT_.out (by kernel_rfl)) (fun _ _ _ h => h) (Or.inl ⟨by rfl, ?_⟩) ?_ ?_
     rotate_left
     ·intro w'
      go_simp
      with_reducible rfl
     rotate_left
     ·simp only [Act.put, qT, q0, qS, i64_w, i32_w]
      rfl
     refine pure_ (i := 2) (N := some 21) (v := ?_) (a' := ?_) #[false, true, true, false, false, false, false, false, false, false, false] rfl rfl (any_of HT_.out (by kernel_rfl)) (fun _ _ _ h => h) (Or.inl ⟨by rfl, ?_⟩) ?_ ?_
     rotate_left
     ·intro w'
      go_simp
      with_reducible rfl
     rotate_left
     ·simp only [Act.put, qT, q0, qS, i64_w, i32_w]
      rfl
     refine pure_ (i := 3) (N := some 22) (v := ?_) (a' := ?_) #[false, true, true, true, false, false, false, false, false, false, false] rfl rfl (any_of HT_.out (by kernel_rfl)) (fun _ _ _ h => h) (Or.inl ⟨by rfl, ?_⟩) ?_ ?_
     rotate_left
     ·intro w'
      go_simp
      with_reducible rfl
     rotate_left
     ·simp only [Act.put, qT, q0, qS, i64_w, i32_w]
      rfl
     refine take_ (i := 0) (N := some 19) (v := ?_) (a' := ?_) #[true, true, true, true, false, false, false, false, false, false, false] rfl rfl (take_ofW HT_.out HW_.out (by kernel_rfl)) (fun _ _ _ h => h) (Or.inl ⟨by rfl, ?_⟩) hHeld ?_ ?_
     rotate_left
     ·intro w' s0
      go_simp
      with_reducible rfl
     rotate_left
     ·simp only [Act.put, qT, q0, qS, i64_w, i32_w]
      rfl
     refine join_ (σ := Value × Nat) 2 #[true, true, true, true, true, true, true, true, true, false, false] (fun s_ => [(23, .tuple #[.agg #[s_.1], .int .i64 t277]), (10, .pointer (some ⟨s_.2, 0, none⟩)), (18, .tuple #[.agg #[s_.1], .int .i64 t277]), (24, .agg #[s_.1]), (25, .int .i64 t277)]) (fun s_ w' => (w'.cell? ⟨gb267, 0, none⟩ = some (.slice A0_0 l0_0.length c0_0)) ∧ (Kd.R k67 67 w' w.heap.size (fun _ => True) s_.1 t274) ∧ (w'.heap[gb267]? = some (.cells #[.slice A0_0 l0_0.length c0_0] 30 (0, 0))) ∧ (w'.heap[gb268]? = some (.cells #[.slice none 0 0] 30 (0, 0))) ∧ (w'.heap[s_.2]? = some (.cells #[.slice none 0 0] 30 (0, 0))) ∧ (w.heap.size ≤ s_.2) ∧ (w.heap.size ≤ s_.2) ∧ (gb267 ≠ s_.2) ∧ (s_.2 ≠ gb267) ∧ (gb268 ≠ s_.2) ∧ (s_.2 ≠ gb268) ∧ (Below w.heap.size w w')) ?_ ?_
     rotate_left
     ·intro hCont
      refine two_ (i := 4) (j := 8) (Ni := some 23) (Nj := some 10) #[true, true, true, true, true, false, false, false, false, false, false] #[true, true, true, true, false, false, false, false, true, false, false] rfl rfl rfl rfl (two_of HT_.out (by kernel_rfl)) (by decide) (by decide) (fun K hK => ?_) (fun K hK => ?_)
      ·skip
       refine goes_ Try.func23 (by kernel_rfl) rfl #[.agg #[.slice A0_0 l0_0.length c0_0], .slice A1 y270.length c1] (by rfl) rfl rfl am ?_
       with_reducible refine (spec_DoActs.calls k _ _ l0_0 _ _ y270 t274 t277 _ ?side1 ?side2 ?side3 ?side4 A9.out).mono ?_
       (case side1 => repeat (first | exact (Kd.C_below HR0_0.out HB.out) | (with_reducible first | refine cA ?_ _ | refine cN ?_ _ | refine cD ?_)))
       (case side2 => exact HC0_0.out)
       (case side3 => repeat (first | exact (Kd.C_below HR273.out HB.out) | (with_reducible first | refine cA ?_ _ | refine cN ?_ _ | refine cD ?_)))
       (case side4 => exact HC273.out)
       rintro e w15 ⟨v275, rfl, ho0, hb⟩
       refine ⟨_, rfl, ?_⟩
       have HO276 := AM (Kd.R_lower ho0 (below_size (hS)))
       replace BK267 := bw BK267 hb
       replace BK268 := bw BK268 hb
       replace HB := AM (below_step (hS) hb)
       (try clear hb)
       (try clear hb2)
       (try clear hk)
       (try clear hi)
       (try clear ho0)
       refine hK.out _ _ (bc BK267 0) (fun hHeld => ?_)
       clear hK K
       refine norm_ (a' := ?_) ?_ ?_
       rotate_left
       ·show Act.put _ (some 23) _ = _
        simp only [Act.put, qT, q0, qS, i64_w, i32_w]
        rfl
       refine pure_ (i := 5) (N := some 18) (v := ?_) (a' := ?_) #[true, true, true, true, true, true, false, false, false, false, false] rfl rfl (any_of HT_.out (by kernel_rfl)) (fun _ _ _ h => h) (Or.inl ⟨by rfl, ?_⟩) ?_ ?_
       rotate_left
       ·intro w'
        go_simp
        with_reducible rfl
       rotate_left
       ·simp only [Act.put, qT, q0, qS, i64_w, i32_w]
        rfl
       refine pure_ (i := 6) (N := some 24) (v := ?_) (a' := ?_) #[true, true, true, true, true, true, true, false, false, false, false] rfl rfl (any_of HT_.out (by kernel_rfl)) (fun _ _ _ h => h) (Or.inl ⟨by rfl, ?_⟩) ?_ ?_
       rotate_left
       ·intro w'
        go_simp
        with_reducible rfl
       rotate_left
       ·simp only [Act.put, qT, q0, qS, i64_w, i32_w]
        rfl
       refine pure_ (i := 7) (N := some 25) (v := ?_) (a' := ?_) #[true, true, true, true, true, true, true, true, false, false, false] rfl rfl (any_of HT_.out (by kernel_rfl)) (fun _ _ _ h => h) (Or.inl ⟨by rfl, ?_⟩) ?_ ?_
       rotate_left
       ·intro w'
        go_simp
        with_reducible rfl
       rotate_left
       ·simp only [Act.put, qT, q0, qS, i64_w, i32_w]
        rfl
       refine one_ (i := 8) (N := some 10) #[true, true, true, true, true, true, true, true, true, false, false] rfl rfl (one_of HT_.out (by kernel_rfl)) (by decide) (fun K hK => ?_)
       refine box_step ?hg (N := 10) ?hd (cs := #[.slice none 0 0]) (t := 30) ?hr ?_; (case hd => rfl); (case hg => rfl); (case hr => first | (go_simp; done) | (go_simp; rfl))
       intro gb278 hg w16 hbox hb
       replace HO276 := AM (Kd.R_below (by exact HO276.out) hb)
       have BK278 := AM (hbox)
       have GW278 := AM (bt hg hS)
       have GE278 := AM (bt hg hS)
       replace HB := AM (below_step (hS) hb)
       have NB267_278 := AM (nl hg (bk BK267))
       have NB278_267 := AM (ng hg (bk BK267))
       replace BK267 := bw BK267 hb
       have NB268_278 := AM (nl hg (bk BK268))
       have NB278_268 := AM (ng hg (bk BK268))
       replace BK268 := bw BK268 hb
       clear hb hbox hg
       refine hK.out _ _ (bc BK267 0) (fun hHeld => ?_)
       clear hK K
       refine norm_ (a' := ?_) ?_ ?_
       rotate_left
       ·show Act.put _ (some 10) _ = _
        simp only [Act.put, qT, q0, qS, i64_w, i32_w]
        rfl
       exact norm_ (by simp only [putAll, Act.put, qT, q0, qS]) (hCont (v275, gb278) _ ⟨hHeld, (by exact HO276.out), (bk BK267), (bk BK268), (bk BK278), GW278.out, GE278.out, NB267_278.out, NB278_267.out, NB268_278.out, NB278_268.out, (hS)⟩)
      skip
      refine box_step ?hg (N := 10) ?hd (cs := #[.slice none 0 0]) (t := 30) ?hr ?_; (case hd => rfl); (case hg => rfl); (case hr => first | (go_simp; done) | (go_simp; rfl))
      intro gb278 hg w15 hbox hb
      have BK278 := AM (hbox)
      have GW278 := AM (bt hg hS)
      have GE278 := AM (bt hg hS)
      replace HB := AM (below_step (hS) hb)
      have NB267_278 := AM (nl hg (bk BK267))
      have NB278_267 := AM (ng hg (bk BK267))
      replace BK267 := bw BK267 hb
      have NB268_278 := AM (nl hg (bk BK268))
      have NB278_268 := AM (ng hg (bk BK268))
      replace BK268 := bw BK268 hb
      clear hb hbox hg
      refine hK.out _ _ (bc BK267 0) (fun hHeld => ?_)
      clear hK K
      refine norm_ (a' := ?_) ?_ ?_
      rotate_left
      ·show Act.put _ (some 10) _ = _
       simp only [Act.put, qT, q0, qS, i64_w, i32_w]
       rfl
      refine one_ (i := 4) (N := some 23) #[true, true, true, true, true, false, false, false, true, false, false] rfl rfl (one_of HT_.out (by kernel_rfl)) (by decide) (fun K hK => ?_)
      refine goes_ Try.func23 (by kernel_rfl) rfl #[.agg #[.slice A0_0 l0_0.length c0_0], .slice A1 y270.length c1] (by rfl) rfl rfl am ?_
      with_reducible refine (spec_DoActs.calls k _ _ l0_0 _ _ y270 t274 t277 _ ?side1 ?side2 ?side3 ?side4 A9.out).mono ?_
      (case side1 => repeat (first | exact (Kd.C_below HR0_0.out HB.out) | (with_reducible first | refine cA ?_ _ | refine cN ?_ _ | refine cD ?_)))
      (case side2 => exact HC0_0.out)
      (case side3 => repeat (first | exact (Kd.C_below HR273.out HB.out) | (with_reducible first | refine cA ?_ _ | refine cN ?_ _ | refine cD ?_)))
      (case side4 => exact HC273.out)
      rintro e w16 ⟨v275, rfl, ho0, hb⟩
      refine ⟨_, rfl, ?_⟩
      have HO276 := AM (Kd.R_lower ho0 (below_size (hS)))
      replace BK267 := bw BK267 hb
      replace BK268 := bw BK268 hb
      replace BK278 := bw BK278 hb
      replace HB := AM (below_step (hS) hb)
      (try clear hb)
      (try clear hb2)
      (try clear hk)
      (try clear hi)
      (try clear ho0)
      refine hK.out _ _ (bc BK267 0) (fun hHeld => ?_)
      clear hK K
      refine norm_ (a' := ?_) ?_ ?_
      rotate_left
      ·show Act.put _ (some 23) _ = _
       simp only [Act.put, qT, q0, qS, i64_w, i32_w]
       rfl
      refine pure_ (i := 5) (N := some 18) (v := ?_) (a' := ?_) #[true, true, true, true, true, true, false, false, true, false, false] rfl rfl (any_of HT_.out (by kernel_rfl)) (fun _ _ _ h => h) (Or.inl ⟨by rfl, ?_⟩) ?_ ?_
      rotate_left
      ·intro w'
       go_simp
       with_reducible rfl
      rotate_left
      ·simp only [Act.put, qT, q0, qS, i64_w, i32_w]
       rfl
      refine pure_ (i := 6) (N := some 24) (v := ?_) (a' := ?_) #[true, true, true, true, true, true, true, false, true, false, false] rfl rfl (any_of HT_.out (by kernel_rfl)) (fun _ _ _ h => h) (Or.inl ⟨by rfl, ?_⟩) ?_ ?_
      rotate_left
      ·intro w'
       go_simp
       with_reducible rfl
      rotate_left
      ·simp only [Act.put, qT, q0, qS, i64_w, i32_w]
       rfl
      refine pure_ (i := 7) (N := some 25) (v := ?_) (a' := ?_) #[true, true, true, true, true, true, true, true, true, false, false] rfl rfl (any_of HT_.out (by kernel_rfl)) (fun _ _ _ h => h) (Or.inl ⟨by rfl, ?_⟩) ?_ ?_
      rotate_left
      ·intro w'
       go_simp
       with_reducible rfl
      rotate_left
      ·simp only [Act.put, qT, q0, qS, i64_w, i32_w]
       rfl
      exact norm_ (by simp only [putAll, Act.put, qT, q0, qS]) (hCont (v275, gb278) _ ⟨hHeld, (by exact HO276.out), (bk BK267), (bk BK268), (bk BK278), GW278.out, GE278.out, NB267_278.out, NB278_267.out, NB268_278.out, NB278_268.out, (hS)⟩)
     rintro ⟨v275, gb278⟩ w17 ⟨hS_, h0_, h1_, h2_, h3_, h4_, h5_, h6_, h7_, h8_, h9_, h10_⟩
     have n0_ : Aside0 (Kd.R k67 67 w17 w.heap.size (fun _ => True) v275 t274) := ⟨h0_⟩
     have n1_ : Aside0 (w17.heap[gb267]? = some (.cells #[.slice A0_0 l0_0.length c0_0] 30 (0, 0))) := ⟨h1_⟩
     have n2_ : Aside0 (w17.heap[gb268]? = some (.cells #[.slice none 0 0] 30 (0, 0))) := ⟨h2_⟩
     have n3_ : Aside0 (w17.heap[gb278]? = some (.cells #[.slice none 0 0] 30 (0, 0))) := ⟨h3_⟩
     have n4_ : Aside0 (w.heap.size ≤ gb278) := ⟨h4_⟩
     have n5_ : Aside0 (w.heap.size ≤ gb278) := ⟨h5_⟩
     have n6_ : Aside0 (gb267 ≠ gb278) := ⟨h6_⟩
     have n7_ : Aside0 (gb278 ≠ gb267) := ⟨h7_⟩
     have n8_ : Aside0 (gb268 ≠ gb278) := ⟨h8_⟩
     have n9_ : Aside0 (gb278 ≠ gb268) := ⟨h9_⟩
     have n10_ : Aside0 (Below w.heap.size w w17) := ⟨h10_⟩
     clear BK267
     clear BK268
     clear HB
     clear h0_ h1_ h2_ h3_ h4_ h5_ h6_ h7_ h8_ h9_ h10_
     have HO276 := n0_
     have BK267 := n1_
     have BK268 := n2_
     have BK278 := n3_
     have GW278 := n4_
     have GE278 := n5_
     have NB267_278 := n6_
     have NB278_267 := n7_
     have NB268_278 := n8_
     have NB278_268 := n9_
     have HB := n10_
     clear n0_ n1_ n2_ n3_ n4_ n5_ n6_ n7_ n8_ n9_ n10_
     have hHeld : w17.cell? ⟨gb267, 0, none⟩ = some (.slice A0_0 l0_0.length c0_0) := hS_
     obtain ⟨Ao18, co18, eo18⟩ := Kd.R_slice HO276.out
     (first | subst eo18 | (injection eo18 with f1_ f2_ f3_; have f4_ := f1_.symm; have f5_ := f3_.symm; clear f1_ f2_ f3_; subst f4_; subst f5_))
     refine norm_ (a' := ?_) ?_ ?_
     rotate_left
     ·simp only [putAll, Act.put, qT, q0, qS]
      rfl
     refine one_ (i := 9) (N := none) #[true, true, true, true, true, true, true, true, true, true, false] rfl rfl (one_of HT_.out (by kernel_rfl)) (by decide) (fun K hK => ?_)
     have hs19 : w17.cell? ⟨gb278, 0, none⟩ = some (.slice none 0 0) := bc BK278 0
     have hfs19 := bz BK278 0
     have hns19_0 := NB267_278.out
     have hns19_1 := NB268_278.out
     have hms19_0 := NB278_267.out
     have hms19_1 := NB278_268.out
     refine skip_ (w1 := ?_) (by rfl) rfl ?_ ?_
     rotate_left
     ·go_simp
      rfl
     refine hK.out _ _ (((cell_far (p := ⟨gb278, _, none⟩) NB267_278.out _).trans (hHeld))) (fun hHeld => ?_)
     clear hK K
     refine pure_ (i := 10) (N := some 11) (v := ?_) (a' := ?_) #[true, true, true, true, true, true, true, true, true, true, true] rfl rfl (any_of HT_.out (by kernel_rfl)) (fun _ _ _ h => h) (Or.inl ⟨by rfl, ?_⟩) ?_ ?_
     rotate_left
     ·intro w'
      go_simp
      with_reducible rfl
     rotate_left
     ·simp only [Act.put, qT, q0, qS, i64_w, i32_w]
      rfl
     refine done_ (done_of HT_.out (by kernel_rfl)) ?_
     have hnb20 := NB268_267.out
     have hnc20 := NB267_268.out
     have hnb21 := NB268_278.out
     have hnc21 := NB278_268.out
     have hcz22_0 := bv BK268 0 (.slice none 0 0)
     have hfz22_0 := bz BK268 0
     try go_wp2
     refine bodyPost_ret (results_ct rfl _ _ gb268 30 #[.slice none 0 0] (0, 0) _ rfl (by (with_reducible repeat first | apply aN | apply aD | apply aA); refine blk_put (cs := #[.slice none 0 0]) ?_ 0 _ rfl; (with_reducible repeat first | apply aN | apply aD | apply aA); refine blk_far ?_ NB268_278.out _; exact bk BK268) Try.underlying30 rfl (by kernel_rfl)) rfl ?_
     exact ⟨_, er, by first | exact Kd.R_nil _ _ _ _ _ | exact Kd.N_nil _ _ _ _ _ | exact Kd.V_nil _ _ _ _ _ | exact Kd.Q_nil _ _ _ _ _ | exact Kd.S_nil _ _ _ _ _, hS⟩
    rw [if_neg c10] at H
    have c10b0 : decide (t277 < a2) = false := decide_eq_false c10
    clear c10
    replace H := bm H
    obtain ⟨⟨t279, t282⟩, A230, H⟩ := H
    replace H : (some (t279, t282)) = some (r1, r2) := H
    have A23 := AM A230
    clear A230
    simp only [Option.some.injEq, Prod.mk.injEq] at H
    obtain ⟨rfl, rfl⟩ := H
    go_enter Try.func28, Try.ntmps28
    try go_wp2_with (first | ((with_reducible refine gd 4 rfl ?_); refine bx (N := 4) (cs := #[.slice A0_0 l0_0.length c0_0]) (t := 30) ?_; intro gb267 hg w24 hbox hb; have BK267 := AM (hbox); have GW267 := AM (bs hg HB); have GE267 := AM (bs hg HB); replace HB := bq HB hb; clear hb hbox hg) | ((with_reducible refine gd 8 rfl ?_); refine bx (N := 8) (cs := #[.slice none 0 0]) (t := 30) ?_; intro gb268 hg w25 hbox hb; have BK268 := AM (hbox); have GW268 := AM (bt hg hS); have GE268 := AM (bt hg hS); replace HB := AM (below_step (hS) hb); have NB267_268 := AM (nl hg (bk BK267)); have NB268_267 := AM (ng hg (bk BK267)); replace BK267 := bw BK267 hb; clear hb hbox hg) | ((with_reducible refine gc 55 rfl ?_); refine goesL_ (some 15) rfl rfl Try.func55 (by kernel_rfl) rfl #[.int .i64 a2, .int .i64 0, .int .i64 (l1.length : Int)] rfl am ?_; (with_reducible refine (spec_l01In.calls a2 0 (l1.length : Int) true _ A5.out).mono ?_); rintro e w' ⟨rfl, ⟨nd, rfl⟩⟩; refine ⟨_, rfl, ?_⟩; (try (rw [drewN_self w25]; generalize hq_ : World.drewN w25 _ = w25; have n0_ : Aside0 (w25.heap[gb267]? = some (.cells #[.slice A0_0 l0_0.length c0_0] 30 (0, 0))) := ⟨by rw [← hq_]; exact (bk BK267)⟩; have n1_ : Aside0 (w25.heap[gb268]? = some (.cells #[.slice none 0 0] 30 (0, 0))) := ⟨by rw [← hq_]; exact (bk BK268)⟩; have n2_ : Aside0 (Below w.heap.size w w25) := ⟨by rw [← hq_]; exact (hS)⟩; clear BK267 BK268 HB hq_; have BK267 := n0_; have BK268 := n1_; have HB := n2_; clear n0_ n1_ n2_))))
    replace BK267 := AM (blk_drew BK267.out)
    replace BK268 := AM (blk_drew BK268.out)
    replace HB := AM (below_drew1 HB.out)
    have q27 : (a2 : Int) ≤ ((l1.length : Int) : Int) := od
    obtain ⟨i027, hi027, _, hsz27, _⟩ := info_parts info41
    have hroom27 : l1.length ≤ c1 := HC1.out
    have hC27 : Kd.C k41 _ A1 l1.length l1 := HR1.out
    have hcut27 := cut_to (P := Try.prog) 49 41 .i64 Try.underlying49 hi027 A1 l1.length c1 a2 (od) q27 hroom27
    have hr27 := Kd.C_take (m := (a2 : Int).toNat) hC27 (by omega)
    have hy27 : y270.length = (a2 : Int).toNat := (by rw [Ny270.out, List.length_take]; omega)
    rw [← Ny270.out] at hr27
    rw [← hy27] at hcut27
    have HR273 := AM hr27
    have HC273 := AM (show y270.length ≤ c1 from by omega)
    clear hr27 hC27 hroom27 hi027 hsz27
    have KY27 := AM hy27
    clear hy27
    replace q27 := eq_true q27
    refine start_ (n := 11) (S := fun w' => w'.cell? ⟨gb267, 0, none⟩ = some (.slice A0_0 l0_0.length c0_0)) (ds := []) #[false, false, false, false, false, false, false, false, false, false, false] (by kernel_rfl) rfl rfl (bc BK267 0) (fun hHeld => ?_); refine with_tabW spec_CutActs.tab3 spec_CutActs.bits3 (fun HT_ HW_ => ?_)
    generalize w25.drew = w26 at BK267 BK268 HB HR273 hHeld ⊢
    refine pure_ (i := 1) (N := some 20) (v := ?_) (a' := ?_) #[false, true, false, false, false, false, false, false, false, false, false] rfl rfl (any_of HT_.out (by kernel_rfl)) (fun _ _ _ h => h) (Or.inl ⟨by rfl, ?_⟩) ?_ ?_
    rotate_left
    ·intro w'
     go_simp
     with_reducible rfl
    rotate_left
    ·simp only [Act.put, qT, q0, qS, i64_w, i32_w]
     rfl
    refine pure_ (i := 2) (N := some 21) (v := ?_) (a' := ?_) #[false, true, true, false, false, false, false, false, false, false, false] rfl rfl (any_of HT_.out (by kernel_rfl)) (fun _ _ _ h => h) (Or.inl ⟨by rfl, ?_⟩) ?_ ?_
    rotate_left
    ·intro w'
     go_simp
     with_reducible rfl
    rotate_left
    ·simp only [Act.put, qT, q0, qS, i64_w, i32_w]
     rfl
    refine pure_ (i := 3) (N := some 22) (v := ?_) (a' := ?_) #[false, true, true, true, false, false, false, false, false, false, false] rfl rfl (any_of HT_.out (by kernel_rfl)) (fun _ _ _ h => h) (Or.inl ⟨by rfl, ?_⟩) ?_ ?_
    rotate_left
    ·intro w'
     go_simp
     with_reducible rfl
    rotate_left
    ·simp only [Act.put, qT, q0, qS, i64_w, i32_w]
     rfl
    refine take_ (i := 0) (N := some 19) (v := ?_) (a' := ?_) #[true, true, true, true, false, false, false, false, false, false, false] rfl rfl (take_ofW HT_.out HW_.out (by kernel_rfl)) (fun _ _ _ h => h) (Or.inl ⟨by rfl, ?_⟩) hHeld ?_ ?_
    rotate_left
    ·intro w' s0
     go_simp
     with_reducible rfl
    rotate_left
    ·simp only [Act.put, qT, q0, qS, i64_w, i32_w]
     rfl
    refine join_ (σ := Value × Nat) 2 #[true, true, true, true, true, true, true, true, true, false, false] (fun s_ => [(23, .tuple #[.agg #[s_.1], .int .i64 t277]), (10, .pointer (some ⟨s_.2, 0, none⟩)), (18, .tuple #[.agg #[s_.1], .int .i64 t277]), (24, .agg #[s_.1]), (25, .int .i64 t277)]) (fun s_ w' => (w'.cell? ⟨gb267, 0, none⟩ = some (.slice A0_0 l0_0.length c0_0)) ∧ (Kd.R k67 67 w' w.heap.size (fun _ => True) s_.1 t274) ∧ (w'.heap[gb267]? = some (.cells #[.slice A0_0 l0_0.length c0_0] 30 (0, 0))) ∧ (w'.heap[gb268]? = some (.cells #[.slice none 0 0] 30 (0, 0))) ∧ (w'.heap[s_.2]? = some (.cells #[.slice none 0 0] 30 (0, 0))) ∧ (w.heap.size ≤ s_.2) ∧ (w.heap.size ≤ s_.2) ∧ (gb267 ≠ s_.2) ∧ (s_.2 ≠ gb267) ∧ (gb268 ≠ s_.2) ∧ (s_.2 ≠ gb268) ∧ (Below w.heap.size w w')) ?_ ?_
    rotate_left
    ·intro hCont
     refine two_ (i := 4) (j := 8) (Ni := some 23) (Nj := some 10) #[true, true, true, true, true, false, false, false, false, false, false] #[true, true, true, true, false, false, false, false, true, false, false] rfl rfl rfl rfl (two_of HT_.out (by kernel_rfl)) (by decide) (by decide) (fun K hK => ?_) (fun K hK => ?_)
     ·skip
      refine goes_ Try.func23 (by kernel_rfl) rfl #[.agg #[.slice A0_0 l0_0.length c0_0], .slice A1 y270.length c1] (by rfl) rfl rfl am ?_
      with_reducible refine (spec_DoActs.calls k _ _ l0_0 _ _ y270 t274 t277 _ ?side1 ?side2 ?side3 ?side4 A9.out).mono ?_
      (case side1 => repeat (first | exact (Kd.C_below HR0_0.out HB.out) | (with_reducible first | refine cA ?_ _ | refine cN ?_ _ | refine cD ?_)))
      (case side2 => exact HC0_0.out)
      (case side3 => repeat (first | exact (Kd.C_below HR273.out HB.out) | (with_reducible first | refine cA ?_ _ | refine cN ?_ _ | refine cD ?_)))
      (case side4 => exact HC273.out)
      rintro e w28 ⟨v275, rfl, ho0, hb⟩
      refine ⟨_, rfl, ?_⟩
      have HO276 := AM (Kd.R_lower ho0 (below_size (hS)))
      replace BK267 := bw BK267 hb
      replace BK268 := bw BK268 hb
      replace HB := AM (below_step (hS) hb)
      (try clear hb)
      (try clear hb2)
      (try clear hk)
      (try clear hi)
      (try clear ho0)
      refine hK.out _ _ (bc BK267 0) (fun hHeld => ?_)
      clear hK K
      refine norm_ (a' := ?_) ?_ ?_
      rotate_left
      ·show Act.put _ (some 23) _ = _
       simp only [Act.put, qT, q0, qS, i64_w, i32_w]
       rfl
      refine pure_ (i := 5) (N := some 18) (v := ?_) (a' := ?_) #[true, true, true, true, true, true, false, false, false, false, false] rfl rfl (any_of HT_.out (by kernel_rfl)) (fun _ _ _ h => h) (Or.inl ⟨by rfl, ?_⟩) ?_ ?_
      rotate_left
      ·intro w'
       go_simp
       with_reducible rfl
      rotate_left
      ·simp only [Act.put, qT, q0, qS, i64_w, i32_w]
       rfl
      refine pure_ (i := 6) (N := some 24) (v := ?_) (a' := ?_) #[true, true, true, true, true, true, true, false, false, false, false] rfl rfl (any_of HT_.out (by kernel_rfl)) (fun _ _ _ h => h) (Or.inl ⟨by rfl, ?_⟩) ?_ ?_
      rotate_left
      ·intro w'
       go_simp
       with_reducible rfl
      rotate_left
      ·simp only [Act.put, qT, q0, qS, i64_w, i32_w]
       rfl
      refine pure_ (i := 7) (N := some 25) (v := ?_) (a' := ?_) #[true, true, true, true, true, true, true, true, false, false, false] rfl rfl (any_of HT_.out (by kernel_rfl)) (fun _ _ _ h => h) (Or.inl ⟨by rfl, ?_⟩) ?_ ?_
      rotate_left
      ·intro w'
       go_simp
       with_reducible rfl
      rotate_left
      ·simp only [Act.put, qT, q0, qS, i64_w, i32_w]
       rfl
      refine one_ (i := 8) (N := some 10) #[true, true, true, true, true, true, true, true, true, false, false] rfl rfl (one_of HT_.out (by kernel_rfl)) (by decide) (fun K hK => ?_)
      refine box_step ?hg (N := 10) ?hd (cs := #[.slice none 0 0]) (t := 30) ?hr ?_; (case hd => rfl); (case hg => rfl); (case hr => first | (go_simp; done) | (go_simp; rfl))
      intro gb278 hg w29 hbox hb
      replace HO276 := AM (Kd.R_below (by exact HO276.out) hb)
      have BK278 := AM (hbox)
      have GW278 := AM (bt hg hS)
      have GE278 := AM (bt hg hS)
      replace HB := AM (below_step (hS) hb)
      have NB267_278 := AM (nl hg (bk BK267))
      have NB278_267 := AM (ng hg (bk BK267))
      replace BK267 := bw BK267 hb
      have NB268_278 := AM (nl hg (bk BK268))
      have NB278_268 := AM (ng hg (bk BK268))
      replace BK268 := bw BK268 hb
      clear hb hbox hg
      refine hK.out _ _ (bc BK267 0) (fun hHeld => ?_)
      clear hK K
      refine norm_ (a' := ?_) ?_ ?_
      rotate_left
      ·show Act.put _ (some 10) _ = _
       simp only [Act.put, qT, q0, qS, i64_w, i32_w]
       rfl
      exact norm_ (by simp only [putAll, Act.put, qT, q0, qS]) (hCont (v275, gb278) _ ⟨hHeld, (by exact HO276.out), (bk BK267), (bk BK268), (bk BK278), GW278.out, GE278.out, NB267_278.out, NB278_267.out, NB268_278.out, NB278_268.out, (hS)⟩)
     skip
     refine box_step ?hg (N := 10) ?hd (cs := #[.slice none 0 0]) (t := 30) ?hr ?_; (case hd => rfl); (case hg => rfl); (case hr => first | (go_simp; done) | (go_simp; rfl))
     intro gb278 hg w28 hbox hb
     have BK278 := AM (hbox)
     have GW278 := AM (bt hg hS)
     have GE278 := AM (bt hg hS)
     replace HB := AM (below_step (hS) hb)
     have NB267_278 := AM (nl hg (bk BK267))
     have NB278_267 := AM (ng hg (bk BK267))
     replace BK267 := bw BK267 hb
     have NB268_278 := AM (nl hg (bk BK268))
     have NB278_268 := AM (ng hg (bk BK268))
     replace BK268 := bw BK268 hb
     clear hb hbox hg
     refine hK.out _ _ (bc BK267 0) (fun hHeld => ?_)
     clear hK K
     refine norm_ (a' := ?_) ?_ ?_
     rotate_left
     ·show Act.put _ (some 10) _ = _
      simp only [Act.put, qT, q0, qS, i64_w, i32_w]
      rfl
     refine one_ (i := 4) (N := some 23) #[true, true, true, true, true, false, false, false, true, false, false] rfl rfl (one_of HT_.out (by kernel_rfl)) (by decide) (fun K hK => ?_)
     refine goes_ Try.func23 (by kernel_rfl) rfl #[.agg #[.slice A0_0 l0_0.length c0_0], .slice A1 y270.length c1] (by rfl) rfl rfl am ?_
     with_reducible refine (spec_DoActs.calls k _ _ l0_0 _ _ y270 t274 t277 _ ?side1 ?side2 ?side3 ?side4 A9.out).mono ?_
     (case side1 => repeat (first | exact (Kd.C_below HR0_0.out HB.out) | (with_reducible first | refine cA ?_ _ | refine cN ?_ _ | refine cD ?_)))
     (case side2 => exact HC0_0.out)
     (case side3 => repeat (first | exact (Kd.C_below HR273.out HB.out) | (with_reducible first | refine cA ?_ _ | refine cN ?_ _ | refine cD ?_)))
     (case side4 => exact HC273.out)
     rintro e w29 ⟨v275, rfl, ho0, hb⟩
     refine ⟨_, rfl, ?_⟩
     have HO276 := AM (Kd.R_lower ho0 (below_size (hS)))
     replace BK267 := bw BK267 hb
     replace BK268 := bw BK268 hb
     replace BK278 := bw BK278 hb
     replace HB := AM (below_step (hS) hb)
     (try clear hb)
     (try clear hb2)
     (try clear hk)
     (try clear hi)
     (try clear ho0)
     refine hK.out _ _ (bc BK267 0) (fun hHeld => ?_)
     clear hK K
     refine norm_ (a' := ?_) ?_ ?_
     rotate_left
     ·show Act.put _ (some 23) _ = _
      simp only [Act.put, qT, q0, qS, i64_w, i32_w]
      rfl
     refine pure_ (i := 5) (N := some 18) (v := ?_) (a' := ?_) #[true, true, true, true, true, true, false, false, true, false, false] rfl rfl (any_of HT_.out (by kernel_rfl)) (fun _ _ _ h => h) (Or.inl ⟨by rfl, ?_⟩) ?_ ?_
     rotate_left
     ·intro w'
      go_simp
      with_reducible rfl
     rotate_left
     ·simp only [Act.put, qT, q0, qS, i64_w, i32_w]
      rfl
     refine pure_ (i := 6) (N := some 24) (v := ?_) (a' := ?_) #[true, true, true, true, true, true, true, false, true, false, false] rfl rfl (any_of HT_.out (by kernel_rfl)) (fun _ _ _ h => h) (Or.inl ⟨by rfl, ?_⟩) ?_ ?_
     rotate_left
     ·intro w'
      go_simp
      with_reducible rfl
     rotate_left
     ·simp only [Act.put, qT, q0, qS, i64_w, i32_w]
      rfl
     refine pure_ (i := 7) (N := some 25) (v := ?_) (a' := ?_) #[true, true, true, true, true, true, true, true, true, false, false] rfl rfl (any_of HT_.out (by kernel_rfl)) (fun _ _ _ h => h) (Or.inl ⟨by rfl, ?_⟩) ?_ ?_
     rotate_left
     ·intro w'
      go_simp
      with_reducible rfl
     rotate_left
     ·simp only [Act.put, qT, q0, qS, i64_w, i32_w]
      rfl
     exact norm_ (by simp only [putAll, Act.put, qT, q0, qS]) (hCont (v275, gb278) _ ⟨hHeld, (by exact HO276.out), (bk BK267), (bk BK268), (bk BK278), GW278.out, GE278.out, NB267_278.out, NB278_267.out, NB268_278.out, NB278_268.out, (hS)⟩)
    rintro ⟨v275, gb278⟩ w30 ⟨hS_, h0_, h1_, h2_, h3_, h4_, h5_, h6_, h7_, h8_, h9_, h10_⟩
    have n0_ : Aside0 (Kd.R k67 67 w30 w.heap.size (fun _ => True) v275 t274) := ⟨h0_⟩
    have n1_ : Aside0 (w30.heap[gb267]? = some (.cells #[.slice A0_0 l0_0.length c0_0] 30 (0, 0))) := ⟨h1_⟩
    have n2_ : Aside0 (w30.heap[gb268]? = some (.cells #[.slice none 0 0] 30 (0, 0))) := ⟨h2_⟩
    have n3_ : Aside0 (w30.heap[gb278]? = some (.cells #[.slice none 0 0] 30 (0, 0))) := ⟨h3_⟩
    have n4_ : Aside0 (w.heap.size ≤ gb278) := ⟨h4_⟩
    have n5_ : Aside0 (w.heap.size ≤ gb278) := ⟨h5_⟩
    have n6_ : Aside0 (gb267 ≠ gb278) := ⟨h6_⟩
    have n7_ : Aside0 (gb278 ≠ gb267) := ⟨h7_⟩
    have n8_ : Aside0 (gb268 ≠ gb278) := ⟨h8_⟩
    have n9_ : Aside0 (gb278 ≠ gb268) := ⟨h9_⟩
    have n10_ : Aside0 (Below w.heap.size w w30) := ⟨h10_⟩
    clear BK267
    clear BK268
    clear HB
    clear h0_ h1_ h2_ h3_ h4_ h5_ h6_ h7_ h8_ h9_ h10_
    have HO276 := n0_
    have BK267 := n1_
    have BK268 := n2_
    have BK278 := n3_
    have GW278 := n4_
    have GE278 := n5_
    have NB267_278 := n6_
    have NB278_267 := n7_
    have NB268_278 := n8_
    have NB278_268 := n9_
    have HB := n10_
    clear n0_ n1_ n2_ n3_ n4_ n5_ n6_ n7_ n8_ n9_ n10_
    have hHeld : w30.cell? ⟨gb267, 0, none⟩ = some (.slice A0_0 l0_0.length c0_0) := hS_
    obtain ⟨Ao31, co31, eo31⟩ := Kd.R_slice HO276.out
    (first | subst eo31 | (injection eo31 with f1_ f2_ f3_; have f4_ := f1_.symm; have f5_ := f3_.symm; clear f1_ f2_ f3_; subst f4_; subst f5_))
    refine norm_ (a' := ?_) ?_ ?_
    rotate_left
    ·simp only [putAll, Act.put, qT, q0, qS]
     rfl
    refine one_ (i := 9) (N := none) #[true, true, true, true, true, true, true, true, true, true, false] rfl rfl (one_of HT_.out (by kernel_rfl)) (by decide) (fun K hK => ?_)
    have hs32 : w30.cell? ⟨gb278, 0, none⟩ = some (.slice none 0 0) := bc BK278 0
    have hfs32 := bz BK278 0
    have hns32_0 := NB267_278.out
    have hns32_1 := NB268_278.out
    have hms32_0 := NB278_267.out
    have hms32_1 := NB278_268.out
    refine skip_ (w1 := ?_) (by rfl) rfl ?_ ?_
    rotate_left
    ·go_simp
     rfl
    refine hK.out _ _ (((cell_far (p := ⟨gb278, _, none⟩) NB267_278.out _).trans (hHeld))) (fun hHeld => ?_)
    clear hK K
    refine pure_ (i := 10) (N := some 11) (v := ?_) (a' := ?_) #[true, true, true, true, true, true, true, true, true, true, true] rfl rfl (any_of HT_.out (by kernel_rfl)) (fun _ _ _ h => h) (Or.inl ⟨by rfl, ?_⟩) ?_ ?_
    rotate_left
    ·intro w'
     go_simp
     with_reducible rfl
    rotate_left
    ·simp only [Act.put, qT, q0, qS, i64_w, i32_w]
     rfl
    refine done_ (done_of HT_.out (by kernel_rfl)) ?_
    have hnb33 := NB278_267.out
    have hnc33 := NB267_278.out
    have hnb34 := NB278_268.out
    have hnc34 := NB268_278.out
    have hcz35_0 := bv BK278 0 (.slice none 0 0)
    have hfz35_0 := bz BK278 0
    try go_wp2_with (first | ((with_reducible refine gc 56 rfl ?_); refine goesL_ (some 32) rfl rfl Try.func56 (by kernel_rfl) rfl #[.agg #[.slice Ao31 t274.length co31], .slice A3 l3.length c3] rfl am ?_; (with_reducible refine (spec_LoseDisk.calls k _ _ t274 _ _ l3 t279 t282 _ ?side1 ?side2 ?side3 ?side4 A23.out).mono ?_); (case side1 => refine (Kd.R_reads' (e := 67) (base := w.heap.size) (ok := fun k_ => True) (n := t274.length) (c := co31) ?_).2.2; exact (by exact (Kd.R_mono (Kd.R_far (p := ⟨gb278, 0, none⟩) (Kd.R_types HO276.out BK278.out (by decide)) (fun _ hk => hk.2) (.slice Ao31 t274.length co31)) (fun _ h_ => h_.1)))); (case side2 => exact (Kd.R_reads' HO276.out).2.1); (case side3 => exact Kd.C_below HR3.out (hS)); (case side4 => exact HC3.out); rintro e w36 ⟨v280, rfl, ho0, hb⟩; refine ⟨_, rfl, ?_⟩; have n0_ := AM (Kd.R_elder' (by exact (Kd.R_mono (Kd.R_far (p := ⟨gb278, 0, none⟩) (Kd.R_types HO276.out BK278.out (by decide)) (fun _ hk => hk.2) (.slice Ao31 t274.length co31)) (fun _ h_ => h_.1))) (Kd.R_base ho0) hb); have n1_ := AM (Kd.R_lower (Kd.R_new' ho0 (Kd.R_lt (by exact (Kd.R_mono (Kd.R_far (p := ⟨gb278, 0, none⟩) (Kd.R_types HO276.out BK278.out (by decide)) (fun _ hk => hk.2) (.slice Ao31 t274.length co31)) (fun _ h_ => h_.1))))) (below_size (hS))); have n2_ := AM (blk_below (g := gb267) (o := .cells #[.slice A0_0 l0_0.length c0_0] 30 (0, 0)) (be) hb); have n3_ := AM (blk_below (g := gb268) (o := .cells #[.slice none 0 0] 30 (0, 0)) (be) hb); have n4_ := AM (blk_below (g := gb278) (o := .cells #[.slice Ao31 t274.length co31] 30 (0, 0)) (by (with_reducible repeat first | apply aN | apply aD | apply aA); refine blk_put (cs := #[.slice none 0 0]) ?_ 0 _ rfl; exact bk BK278) hb); have n5_ := AM (below_step (hS) hb); clear HO276; clear BK267; clear BK268; clear BK278; clear HB; have HO276 := n0_; have HO281 := n1_; have BK267 := n2_; have BK268 := n3_; have BK278 := n4_; have HB := n5_; clear n0_ n1_ n2_ n3_ n4_ n5_; (try clear hb); (try clear hk); (try clear ho0); obtain ⟨Ao37, co37, eo37⟩ := Kd.R_slice HO281.out; subst eo37; have hnb38 := NB268_267.out; have hnc38 := NB267_268.out; have hcz39_0 := bv BK268 0 (.slice none 0 0); have hfz39_0 := bz BK268 0))
    refine bodyPost_ret (results_ct rfl _ _ gb268 30 #[.slice Ao37 t279.length co37] (0, 0) _ rfl (by (with_reducible repeat first | apply aN | apply aD | apply aA); refine blk_put (cs := #[.slice none 0 0]) ?_ 0 _ rfl; exact bk BK268) Try.underlying30 rfl (by kernel_rfl)) rfl ?_
    exact ⟨_, er, by exact Kd.R_mono (Kd.R_far (p := ⟨gb268, 0, none⟩) (Kd.R_types HO281.out BK268.out (by decide)) (fun _ hk => hk.2) (.slice Ao37 t279.length co37)) (fun _ hk => trivial), hS⟩
   rw [if_neg c8] at H
   exact absurd H (by simp)
  rw [if_neg c7] at H
  exact absurd H (by simp)
 replace c6 := Bool.eq_false_iff.mpr c6
 subst c6
 have H1 : (some (([] : List (S67)), false)) = some (r1, r2) := by rw [if_neg (show ¬ (false = true) by decide)] at H; exact H
 clear H
 have H := H1
 clear H1
 simp only [Option.some.injEq, Prod.mk.injEq] at H
 obtain ⟨rfl, rfl⟩ := H
 go_enter Try.func28, Try.ntmps28
 go_wp2_with (first | ((with_reducible refine gd 4 rfl ?_); refine bx (N := 4) (cs := #[.slice A0_0 l0_0.length c0_0]) (t := 30) ?_; intro gb267 hg w40 hbox hb; have BK267 := AM (hbox); have GW267 := AM (bs hg HB); have GE267 := AM (bs hg HB); replace HB := bq HB hb; clear hb hbox hg) | ((with_reducible refine gd 8 rfl ?_); refine bx (N := 8) (cs := #[.slice none 0 0]) (t := 30) ?_; intro gb268 hg w41 hbox hb; have BK268 := AM (hbox); have GW268 := AM (bt hg hS); have GE268 := AM (bt hg hS); replace HB := AM (below_step (hS) hb); have NB267_268 := AM (nl hg (bk BK267)); have NB268_267 := AM (ng hg (bk BK267)); replace BK267 := bw BK267 hb; clear hb hbox hg) | ((with_reducible refine gc 55 rfl ?_); refine goesL_ (some 15) rfl rfl Try.func55 (by kernel_rfl) rfl #[.int .i64 a2, .int .i64 0, .int .i64 (l1.length : Int)] rfl am ?_; (with_reducible refine (spec_l01In.calls a2 0 (l1.length : Int) false _ A5.out).mono ?_); rintro e w' ⟨rfl, ⟨nd, rfl⟩⟩; refine ⟨_, rfl, ?_⟩; (try (rw [drewN_self w41]; generalize hq_ : World.drewN w41 _ = w41; have n0_ : Aside0 (w41.heap[gb267]? = some (.cells #[.slice A0_0 l0_0.length c0_0] 30 (0, 0))) := ⟨by rw [← hq_]; exact (bk BK267)⟩; have n1_ : Aside0 (w41.heap[gb268]? = some (.cells #[.slice none 0 0] 30 (0, 0))) := ⟨by rw [← hq_]; exact (bk BK268)⟩; have n2_ : Aside0 (Below w.heap.size w w41) := ⟨by rw [← hq_]; exact (hS)⟩; clear BK267 BK268 HB hq_; have BK267 := n0_; have BK268 := n1_; have HB := n2_; clear n0_ n1_ n2_)); have hnb42 := NB268_267.out; have hnc42 := NB267_268.out; have hcz43_0 := bv BK268 0 (.slice none 0 0); have hfz43_0 := bz BK268 0))
 refine bodyPost_ret (results_ct rfl _ _ gb268 30 #[.slice none 0 0] (0, 0) _ rfl (by (with_reducible repeat first | apply aN | apply aD | apply aA); refine blk_put (cs := #[.slice none 0 0]) ?_ 0 _ rfl; exact bk BK268) Try.underlying30 rfl (by kernel_rfl)) rfl ?_
 exact ⟨_, er, by first | exact Kd.R_nil _ _ _ _ _ | exact Kd.N_nil _ _ _ _ _ | exact Kd.V_nil _ _ _ _ _ | exact Kd.Q_nil _ _ _ _ _ | exact Kd.S_nil _ _ _ _ _, hS⟩

/-! ### laws_toIntS: function 29 -/
def laws_toIntS.l0 : Nat → List Int → List Int → Int → Option (List Int)
 | 0, _, _, _ => none
 | k + 1, x0, x3, x4 => if x4 < (x0.length : Int) then (if 0 ≤ x4 then (if x4 < (x3.length : Int) then (laws_toIntS.l0 k x0 (x3.set (x4 : Int).toNat (rd x0 x4)) (wrap64 (x4 + 1))) else (none)) else (none)) else (some x3)
def laws_toIntS.f (k : Nat) (l0 : List Int) : Option (List Int) := if 0 ≤ (l0.length : Int) then (if ((l0.length : Int) : Int).toNat ≤ 35184372088832 then (laws_toIntS.l0 k l0 (List.replicate ((l0.length : Int) : Int).toNat 0) 0) else (none)) else (none)
theorem laws_toIntS.mono_l : ∀ k, (∀ y0 y1 y2, LeO (laws_toIntS.l0 k y0 y1 y2) (laws_toIntS.l0 (k + 1) y0 y1 y2))
 | 0 => fun _ _ _ r h => by simp [laws_toIntS.l0] at h
 | k + 1 => by
  have ih0 := laws_toIntS.mono_l k
  intro y0 y1 y2
  unfold laws_toIntS.l0
  repeat' first
  | (with_reducible exact LeO.refl _)
  | (with_reducible refine LeO.ite ?_ ?_)
  | (with_reducible refine LeO.bind ?_ (fun _ => ?_))
  | exact ih0 _ _ _
  | exact LeO.none _
  | refine LeO.ite ?_ ?_
  | refine LeO.bind ?_ (fun _ => ?_)
theorem laws_toIntS.mono : ∀ a0 k, LeO (laws_toIntS.f k a0) (laws_toIntS.f (k + 1) a0) := by
 intro a0 k
 have ih0 := laws_toIntS.mono_l k
 unfold laws_toIntS.f
 repeat' first
   | (with_reducible exact LeO.refl _)
   | (with_reducible refine LeO.ite ?_ ?_)
   | (with_reducible refine LeO.bind ?_ (fun _ => ?_))
   | exact ih0 _ _ _
   | exact LeO.none _
   | refine LeO.ite ?_ ?_
   | refine LeO.bind ?_ (fun _ => ?_)
set_option maxHeartbeats 8000000 in
set_option maxRecDepth 100000 in
theorem laws_toIntS.calls (k : Nat) (A0 : Option Addr) (c0 : Nat) (l0 : List Int) (r : List Int) (w : World) (hr0 : Kd.C (Kd.int .i64) w A0 l0.length l0) (hc0 : l0.length ≤ c0) (h : laws_toIntS.f k l0 = some r) :
  Calls Try.prog 29 #[.slice A0 l0.length c0] w fun e w' => ∃ v0_ : Value, e = .returned (v0_) ∧ Kd.R (Kd.int .i64) 3 w' w.heap.size (fun _ => True) v0_ r ∧ Below w.heap.size w w' := by
 have HR0 := AM hr0
 have HC0 := AM hc0
 clear hr0 hc0
 have HB := AM (Below.refl w.heap.size w)
 have H : (if 0 ≤ (l0.length : Int) then (if ((l0.length : Int) : Int).toNat ≤ 35184372088832 then (laws_toIntS.l0 k l0 (List.replicate ((l0.length : Int) : Int).toNat 0) 0) else (none)) else (none)) = some r := h
 clear h
 by_cases c2 : 0 ≤ (l0.length : Int)
 ·rw [if_pos c2] at H
  have c2b0 := eq_true c2
  have c2b1 : decide (0 ≤ (l0.length : Int)) = true := decide_eq_true c2
  clear c2
  by_cases c3 : ((l0.length : Int) : Int).toNat ≤ 35184372088832
  ·rw [if_pos c3] at H
   have c3b0 := eq_true c3
   have c3b1 : decide (((l0.length : Int) : Int).toNat ≤ 35184372088832) = true := decide_eq_true c3
   clear c3
   obtain ⟨y283, hy283⟩ : ∃ y_ : List Int, y_ = (List.replicate ((l0.length : Int) : Int).toNat 0) := ⟨_, rfl⟩
   replace H : (laws_toIntS.l0 k l0 y283 0) = some r := by first | (rw [hy283]; with_reducible exact H) | (have H2_ := (Option.bind_some _ _).symm.trans H; rw [hy283]; with_reducible exact H2_) | (have H2_ := (Option.bind_some _ _).symm.trans H; with_reducible exact H2_) | with_reducible exact H | (rw [hy283]; exact H) | exact H
   have Ny283 := AM hy283
   clear hy283
   have H' := AM H
   clear H
   go_enter Try.func29, Try.ntmps29
   go_wp2_with (first | ((with_reducible refine gd 7 rfl ?_); refine Kd.R_make (Kd.int .i64) _ 3 rfl (N := 7) rfl 54 _ _ rfl (l0.length : Int) rfl rfl Try.underlying54 (.int .i64 0) 8 info3 rfl (by decide) (by omega) 0 (ok := fun _ => True) (okp := fun _ => True) rfl (fun _ hk => hk) trivial (od) (Nat.le_trans (Nat.mul_le_mul_right _ (od : (l0.length : Int).toNat ≤ 35184372088832)) (by omega)) (Below.refl _ _) (Nat.le_refl _) ?_; intro v284 w4 ho5 hb hg_ hnew_; clear hg_ hnew_; (first | rw [← Ny283.out] at ho5 | (simp only [Int.reduceToNat] at ho5; rw [← Ny283.out] at ho5)); have HO285 := AM (Kd.R_lower ho5 (below_size (hB HB))); replace HB := bq HB hb; clear hb ho5))
   go_loopg [4] k (fun kq v4 w' => ∃ (x3_1 : List Int) (x4_1 : Int), v4 = .int .i64 x4_1 ∧ Aside0 (laws_toIntS.l0 kq l0 x3_1 x4_1 = some r) ∧ Aside0 (kq ≤ k) ∧ Aside0 (Kd.R (Kd.int .i64) 3 w' w.heap.size (fun _ => True) v284 x3_1) ∧ Aside0 (Below w.heap.size w w'))
   case atStart => exact ⟨(y283), (0), sf, H', ⟨Nat.le_refl _⟩, ⟨by exact HO285.out⟩, ⟨hB HB⟩⟩
   clear H'
   obtain ⟨x3_1, x4_1, rfl, HA, HK1, HO_3, HB⟩ := hrel
   cases gk with
   | zero => exact absurd HA.out (by simp [laws_toIntS.l0])
   | succ k1 =>
    have H := HA.out
    clear HA
    simp only [laws_toIntS.l0] at H
    by_cases c6 : x4_1 < (l0.length : Int)
    ·rw [if_pos c6] at H
     have c6b0 : decide (x4_1 < (l0.length : Int)) = true := decide_eq_true c6
     clear c6
     by_cases c7 : 0 ≤ x4_1
     ·rw [if_pos c7] at H
      have c7b0 : decide (0 ≤ x4_1) = true := decide_eq_true c7
      clear c7
      by_cases c8 : x4_1 < (x3_1.length : Int)
      ·rw [if_pos c8] at H
       have c8b0 : decide (x4_1 < (x3_1.length : Int)) = true := decide_eq_true c8
       clear c8
       obtain ⟨y287, hy287⟩ : ∃ y_ : List Int, y_ = (x3_1.set (x4_1 : Int).toNat (rd l0 x4_1)) := ⟨_, rfl⟩
       replace H : (laws_toIntS.l0 k1 l0 y287 (wrap64 (x4_1 + 1))) = some r := by first | (rw [hy287]; with_reducible exact H) | (have H2_ := (Option.bind_some _ _).symm.trans H; rw [hy287]; with_reducible exact H2_) | (have H2_ := (Option.bind_some _ _).symm.trans H; with_reducible exact H2_) | with_reducible exact H | (rw [hy287]; exact H) | exact H
       have Ny287 := AM hy287
       clear hy287
       have H' := AM H
       clear H
       have p286 : 0 ≤ (x4_1 : Int) := od
       have q286 : x4_1 < (l0.length : Int) := od
       obtain ⟨ad286, e286, hx286_0⟩ := Kd.at_int HR0.out x4_1 p286 q286
       cases e286
       replace hx286_0 := cl HB hx286_0
       replace p286 := eq_true p286
       replace q286 := eq_true q286
       have p9 : 0 ≤ (x4_1 : Int) := od
       have q9 : (x4_1 : Int) < ((x3_1.length : Int) : Int) := od
       obtain ⟨go9, co9, eo9, gb9, gl9, cl9, HG9⟩ := Kd.R_form HO_3.out (by omega)
       (first | cases eo9 | (injection eo9 with ea_ en_ ec_; (first | subst ea_ | (injection ea_ with ea_; subst ea_)); subst ec_; clear en_))
       have GB9 := AM gb9
       have GG9 := AM HG9
       clear gb9 gl9 HG9
       obtain ⟨hx9_0, hf9_0⟩ := Kd.R_celln 0 HO_3.out (x4_1 : Int) p9 q9
       replace p9 := eq_true p9
       replace q9 := eq_true q9
       have HP10 := Kd.R_putg HO_3.out (x4_1 : Int) (rd l0 x4_1)
       go_wp2_with (first | ((with_reducible refine gate_store (t := 3) (p := 20) rfl ?_); refine store_event (t := 3) (p := 20) (v := ?vo_w11) (w1 := (wr.setCell ⟨go9, (x4_1 : Int).toNat, none⟩ (.int .i64 (rd l0 x4_1)))) ?hg ?ho ?hn ?hr ?_; (case ho => rfl); (case hg => rfl); (case hn => rfl); (case hr => first | (go_simp; done) | (go_simp; rfl)); intro w11 hw; have hg : wr.grownBy w11 (some go9) := (by rw [hw]; exact HP10.2); have hp_ : Kd.R (Kd.int .i64) 3 w11 w.heap.size (fun _ => True) (.slice (some ⟨go9, 0, none⟩) x3_1.length co9) y287 := (by rw [hw, Ny287.out]; exact HP10.1); clear HP10; replace HO_3 := AM (hp_); replace HB := AM ((by rw [hw]; exact below_set (HB.out) GB9.out : Below w.heap.size w w11)); clear hg hw hp_))
       go_roundg k1
       case measure => have := HK1.out; omega
       case rel => exact ⟨(y287), (wrap64 (x4_1 + 1)), sf, H', ⟨by have := HK1.out; omega⟩, ⟨by exact HO_3.out⟩, ⟨hB HB⟩⟩
      rw [if_neg c8] at H
      exact absurd H (by simp)
     rw [if_neg c7] at H
     exact absurd H (by simp)
    rw [if_neg c6] at H
    have c6b0 : decide (x4_1 < (l0.length : Int)) = false := decide_eq_false c6
    clear c6
    obtain rfl := Option.some.inj H
    go_wp2
    go_ret
    exact ⟨_, er, by exact HO_3.out, hB HB⟩
  rw [if_neg c3] at H
  exact absurd H (by simp)
 rw [if_neg c2] at H
 exact absurd H (by simp)

/-! ### impl_AllKept_1: function 44 -/
/-! not wanted here -/


/-! ### impl_File_66: function 66 -/
/-! not wanted here -/


/-! ### impl_fileAt: function 39 -/
theorem wsuccI {i : Nat} (h : i < 9223372036854775807) : wrap64 ((i : Int) + 1) = ((i + 1 : Nat) : Int) := by
  unfold wrap64
  omega
theorem goesC_ {P : Program} {ops : Array Oper} {rest : List Oper} {a : Act} {Q : Exit → Act → World → Prop} (T : Tmp) {oi : Oper} {w : World} (N : Option Tmp) (hd : oi.dst = N) (hg : oi.guard = none) {f : FuncId} {lb : Array Value} (hT : a.eval (.tmp T) = .func (.func f) #[] lb) {fn : Func} {ags : Array Operand} {ts : Array TypeId} (hf : P.funcs[f]? = some fn) (hname : (fn.name == "runtime.NumGoroutine") = false) (hb : fn.body.isSome = true) (args : Array Value)
    (hop : oi.op = .call { callee := .value (.tmp T), args := ags, argTypes := ts }) (hargs : ags.map a.eval = args) (all : Array Value) (hall : args ++ lb = all)
    (h : Calls P f all w fun e w' => ∃ v, e = .returned v ∧ wpList P ops Q rest (a.put N v) w') : wpList P ops Q (oi :: rest) a w := by
  subst hall
  refine wpList_plain hg fun K hK => ?_
  have he := enters_ hf hname hb (args ++ lb) w
  have hrun : (execOp a.eval oi).run P w = .ok (.enter f (args ++ lb)) w := by
    unfold execOp
    simp [hop, resolve, hT, Deferred.ofValue, invoke, hargs, he]
  unfold Oper.wp
  rw [hrun, Oper.upon_enter]
  refine h.mono fun e w'' hh => ?_
  obtain ⟨v, rfl, hk⟩ := hh
  subst hd
  exact hK _ _ hk
def atN : List S67 → ByteArray → Nat → Int
  | [], _, _ => -1
  | x :: l, nm, i => if x.f0.toList = nm.toList then (i : Int) else atN l nm (i + 1)
def impl_fileAt.f (l0_0 : List S67) (a1 : ByteArray) : Option Int := some (atN l0_0 a1 0)
set_option maxHeartbeats 8000000 in
set_option maxRecDepth 100000 in
theorem impl_fileAt_1.calls (a0_0 : ByteArray) (a0_1 : ByteArray) (a0_2 : Int) (nm : ByteArray) (g : Nat) (w : World) (hc : w.cell? ⟨g, 0, none⟩ = some (.string nm)) (r : Bool) (hr : r = decide (a0_0.toList = nm.toList)) :
    Calls Try.prog 67 #[.agg #[.string a0_0, .string a0_1, .int .i64 a0_2], .pointer (some ⟨g, 0, none⟩)] w fun e w' => e = .returned (.bool r) ∧ Below w.heap.size w w' := by
  have hu67 := Try.underlying67
  have HB := Aside0.mk (Below.refl w.heap.size w)
  have HC := Aside0.mk hc
  have HR := Aside0.mk hr
  clear hc hr
  go_enter Try.func67, Try.ntmps67
  go_wp2_with (first | ((with_reducible refine gate_dst (N := 2) rfl ?_); refine box_event ?hg (N := 2) ?hd (cs := #[.string a0_0, .string a0_1, .int .i64 a0_2]) (t := 67) ?hr ?_; (case hd => rfl); (case hg => rfl); (case hr => first | (go_simp; done) | (go_simp; rfl)); intro gb1 hg w1 hbox hb; have n0_ := Aside0.mk (below_step (by repeat (first | (with_reducible first | exact HB.out | apply below_alloc | apply pw_below_drewN | apply below_drew1) | exact HB.out)) hb); have n1_ := Aside0.mk hbox; have n2_ := Aside0.mk ((by rw [hg]; exact (below_size (by repeat (first | (with_reducible first | exact HB.out | apply below_alloc | apply pw_below_drewN | apply below_drew1) | exact HB.out)))) : w.heap.size ≤ gb1); clear HB; have HB := n0_; have BK := n1_; have GW := n2_; clear n0_ n1_ n2_; have hcz_0 : w1.cell? ⟨gb1, 0, none⟩ = some (.string a0_0) := (blk_cell BK.out 0).trans rfl; have hcg : w1.cell? ⟨g, 0, none⟩ = some (.string nm) := (hb.cell (World.block_lt_of_cell? _ _ HC.out)).trans HC.out; clear hb hbox hg))
  go_ret
  rw [HR.out]
  exact ⟨by rw [show (a0_0.toList == nm.toList) = decide (a0_0.toList = nm.toList) from by rw [Bool.eq_iff_iff]; simp]; rfl, by repeat (first | (with_reducible first | exact HB.out | apply below_alloc | apply pw_below_drewN | apply below_drew1) | exact HB.out)⟩
set_option maxHeartbeats 8000000 in
set_option maxRecDepth 100000 in
theorem impl_fileAt_idx (A0 : Option Addr) (c0 : Nat) (l0 : List S67) (nm : ByteArray) (g : Nat) (w : World) (hr0 : Kd.C k67 w A0 l0.length l0) (hc0 : l0.length ≤ c0) (hc : w.cell? ⟨g, 0, none⟩ = some (.string nm)) :
    Calls Try.prog 66 #[.slice A0 l0.length c0, .func (.func 67) #[] #[.pointer (some ⟨g, 0, none⟩)]] w fun e w' => e = .returned (.int .i64 (atN l0 nm 0)) ∧ Below w.heap.size w w' := by
  have HR0 := Aside0.mk hr0
  have HC0 := Aside0.mk hc0
  have HC := Aside0.mk hc
  have hmx : l0.length ≤ 9223372036854775807 := hr0.2.1
  clear hr0 hc0 hc
  have HB := Aside0.mk (Below.refl w.heap.size w)
  go_enter Try.func66, Try.ntmps66
  go_wp2
  go_loopg [8] l0.length (fun kq v8 w' => ∃ i : Nat, v8 = .int .i64 (i : Int) ∧ Aside0 (i ≤ l0.length) ∧ Aside0 (kq = l0.length - i) ∧ Aside0 (atN (l0.drop i) nm i = atN l0 nm 0) ∧ Aside0 (Below w.heap.size w w'))
  case atStart => exact ⟨0, rfl, ⟨Nat.zero_le _⟩, ⟨rfl⟩, ⟨rfl⟩, ⟨by repeat (first | (with_reducible first | exact HB.out | apply below_alloc | apply pw_below_drewN | apply below_drew1) | exact HB.out)⟩⟩
  case round =>
    clear HB
    obtain ⟨i, rfl, HI, HK, HA, HB⟩ := hrel
    by_cases ci : i < l0.length
    · have cib : decide ((i : Int) < (l0.length : Int)) = true := decide_eq_true (by omega)
      have p1 : 0 ≤ (i : Int) := by omega
      have q1 : (i : Int) < (l0.length : Int) := by omega
      have hdr : l0.drop i = l0[i] :: l0.drop (i + 1) := List.drop_eq_getElem_cons ci
      have hrd : rd_T67 l0 (i : Int) = l0[i] := by unfold rd_T67; rw [Int.toNat_natCast, List.getD_eq_getElem?_getD, List.getElem?_eq_getElem ci]; rfl
      obtain ⟨ad1, e1, hx0, hx1, hx2⟩ := at_T67 HR0.out (i : Int) p1 q1
      cases e1
      rw [hrd] at hx0 hx1 hx2
      rw [Int.toNat_natCast] at hx0 hx1 hx2
      obtain ⟨x, hx⟩ : ∃ x, x = l0[i] := ⟨_, rfl⟩
      rw [← hx] at hx0 hx1 hx2 hdr
      have HA2 := HA.out
      rw [hdr, atN] at HA2
      replace hx0 := (HB.out.cell (World.block_lt_of_cell? w _ hx0)).trans hx0
      replace hx1 := (HB.out.cell (World.block_lt_of_cell? w _ hx1)).trans hx1
      replace hx2 := (HB.out.cell (World.block_lt_of_cell? w _ hx2)).trans hx2
      have HCW := Aside0.mk ((HB.out.cell (World.block_lt_of_cell? w _ HC.out)).trans HC.out)
      replace p1 := eq_true p1
      replace q1 := eq_true q1
      have wi := wsuccI (i := i) (by omega)
      by_cases ce : x.f0.toList = nm.toList
      · rw [if_pos ce] at HA2
        have HD := Aside0.mk (show true = decide (x.f0.toList = nm.toList) from (decide_eq_true ce).symm)
        have HA3 := Aside0.mk HA2
        clear ce hrd hdr hx HA2 wi
        go_wp2_with (first | ((with_reducible refine gate_calleeT (T := 11) rfl ?_); refine goesC_ 11 (some 16) rfl rfl rfl Try.func67 (by kernel_rfl) rfl #[.agg #[.string x.f0, .string x.f1, .int .i64 x.f2]] rfl (by (try simp only [List.map_toArray, List.map_cons, List.map_nil]); first | done | rfl) #[.agg #[.string x.f0, .string x.f1, .int .i64 x.f2], .pointer (some ⟨g, 0, none⟩)] (by rfl) ?_; (with_reducible refine (impl_fileAt_1.calls x.f0 x.f1 x.f2 nm g _ HCW.out true HD.out).mono ?_); rintro e w8 ⟨rfl, hb⟩; refine ⟨_, rfl, ?_⟩; have n0_ := Aside0.mk (below_step (by repeat (first | (with_reducible first | exact HB.out | apply below_alloc | apply pw_below_drewN | apply below_drew1) | exact HB.out)) hb); clear HB; have HB := n0_; clear n0_ hb))
        go_ret
        exact ⟨by rw [← HA3.out]; (first | done | rfl), by repeat (first | (with_reducible first | exact HB.out | apply below_alloc | apply pw_below_drewN | apply below_drew1) | exact HB.out)⟩
      · rw [if_neg ce] at HA2
        have HD := Aside0.mk (show false = decide (x.f0.toList = nm.toList) from (decide_eq_false ce).symm)
        have HA3 := Aside0.mk HA2
        have WI := Aside0.mk wi
        clear ce hrd hdr hx HA2 wi
        go_wp2_with (first | ((with_reducible refine gate_calleeT (T := 11) rfl ?_); refine goesC_ 11 (some 16) rfl rfl rfl Try.func67 (by kernel_rfl) rfl #[.agg #[.string x.f0, .string x.f1, .int .i64 x.f2]] rfl (by (try simp only [List.map_toArray, List.map_cons, List.map_nil]); first | done | rfl) #[.agg #[.string x.f0, .string x.f1, .int .i64 x.f2], .pointer (some ⟨g, 0, none⟩)] (by rfl) ?_; (with_reducible refine (impl_fileAt_1.calls x.f0 x.f1 x.f2 nm g _ HCW.out false HD.out).mono ?_); rintro e w8 ⟨rfl, hb⟩; refine ⟨_, rfl, ?_⟩; have n0_ := Aside0.mk (below_step (by repeat (first | (with_reducible first | exact HB.out | apply below_alloc | apply pw_below_drewN | apply below_drew1) | exact HB.out)) hb); clear HB; have HB := n0_; clear n0_ hb))
        go_roundg (l0.length - (i + 1))
        case measure => have := HK.out; omega
        case rel => exact ⟨i + 1, by first | rfl | (rw [WI.out]), ⟨by omega⟩, ⟨rfl⟩, HA3, ⟨by repeat (first | (with_reducible first | exact HB.out | apply below_alloc | apply pw_below_drewN | apply below_drew1) | exact HB.out)⟩⟩
    · have cib : decide ((i : Int) < (l0.length : Int)) = false := decide_eq_false (by omega)
      have HA2 := HA.out
      rw [List.drop_eq_nil_of_le (by omega), atN] at HA2
      have HA3 := Aside0.mk HA2
      clear HA2
      go_wp2
      go_ret
      exact ⟨by rw [← HA3.out]; (first | done | rfl), by repeat (first | (with_reducible first | exact HB.out | apply below_alloc | apply pw_below_drewN | apply below_drew1) | exact HB.out)⟩
set_option maxHeartbeats 8000000 in
set_option maxRecDepth 100000 in
theorem impl_fileAt.calls (A0_0 : Option Addr) (c0_0 : Nat) (l0_0 : List S67) (a1 : ByteArray) (r : Int) (w : World) (hr0_0 : Kd.C k67 w A0_0 l0_0.length l0_0) (hc0_0 : l0_0.length ≤ c0_0) (h : impl_fileAt.f l0_0 a1 = some r) :
    Calls Try.prog 39 #[.agg #[.slice A0_0 l0_0.length c0_0], .string a1] w fun e w' => e = .returned (.int .i64 r) ∧ Below w.heap.size w w' := by
  obtain rfl := Option.some.inj h
  have HR0 := Aside0.mk hr0_0
  have HC0 := Aside0.mk hc0_0
  clear hr0_0 hc0_0 h
  have HB := Aside0.mk (Below.refl w.heap.size w)
  go_enter Try.func39, Try.ntmps39
  go_wp2_with (first | ((with_reducible refine gate_dst (N := 2) rfl ?_); refine box_event ?hg (N := 2) ?hd (cs := #[.slice A0_0 l0_0.length c0_0]) (t := 30) ?hr ?_; (case hd => rfl); (case hg => rfl); (case hr => first | (go_simp; done) | (go_simp; rfl)); intro gb1 hg w1 hbox hb; have n0_ := Aside0.mk (below_step (by repeat (first | (with_reducible first | exact HB.out | apply below_alloc | apply pw_below_drewN | apply below_drew1) | exact HB.out)) hb); have n1_ := Aside0.mk hbox; have n2_ := Aside0.mk ((by rw [hg]; exact (below_size (by repeat (first | (with_reducible first | exact HB.out | apply below_alloc | apply pw_below_drewN | apply below_drew1) | exact HB.out)))) : w.heap.size ≤ gb1); clear HB; have HB := n0_; have BK1 := n1_; have hcz_0 : w1.cell? ⟨gb1, 0, none⟩ = some (.slice A0_0 l0_0.length c0_0) := (blk_cell BK1.out 0).trans rfl; clear hb hbox hg n0_ n1_ n2_) | ((with_reducible refine gate_dst (N := 3) rfl ?_); refine box_event ?hg (N := 3) ?hd (cs := #[.string a1]) (t := 9) ?hr ?_; (case hd => rfl); (case hg => rfl); (case hr => first | (go_simp; done) | (go_simp; rfl)); intro gb2 hg w2 hbox hb; have n0_ := Aside0.mk (below_step (by repeat (first | (with_reducible first | exact HB.out | apply below_alloc | apply pw_below_drewN | apply below_drew1) | exact HB.out)) hb); have n1_ := Aside0.mk hbox; have n2_ := Aside0.mk ((by rw [hg]; exact (below_size (by repeat (first | (with_reducible first | exact HB.out | apply below_alloc | apply pw_below_drewN | apply below_drew1) | exact HB.out)))) : w.heap.size ≤ gb2); clear HB; have HB := n0_; have HS := Aside0.mk (show w2.cell? ⟨gb2, 0, none⟩ = some (.string a1) from (blk_cell n1_.out 0).trans rfl); have hcz_1 : w2.cell? ⟨gb1, 0, none⟩ = some (.slice A0_0 l0_0.length c0_0) := (hb.cell (World.block_lt_of_cell? _ _ hcz_0)).trans hcz_0; clear hb hbox hg n0_ n1_ n2_ hcz_0) | ((with_reducible refine gate_callee (f := 66) rfl ?_); refine goesL_ (some 8) rfl rfl Try.func66 (by kernel_rfl) rfl #[.slice A0_0 l0_0.length c0_0, .func (.func 67) #[] #[.pointer (some ⟨gb2, 0, none⟩)]] rfl (by (try simp only [List.map_toArray, List.map_cons, List.map_nil]); first | done | rfl) ?_; (with_reducible refine (impl_fileAt_idx _ _ l0_0 a1 gb2 _ ?side1 ?side2 ?side3).mono ?_); (case side1 => repeat (first | exact Kd.C_below HR0.out HB.out | (with_reducible refine Kd.C_alloc ?_ _) | (with_reducible refine Kd.C_drewN ?_ _) | (with_reducible refine Kd.C_drew ?_))); (case side2 => exact HC0.out); (case side3 => exact HS.out); rintro e w4 ⟨rfl, hb⟩; refine ⟨_, rfl, ?_⟩; have n0_ := Aside0.mk (below_step (by repeat (first | (with_reducible first | exact HB.out | apply below_alloc | apply pw_below_drewN | apply below_drew1) | exact HB.out)) hb); clear HB; have HB := n0_; clear n0_ hb))
  go_ret
  exact ⟨rfl, by repeat (first | (with_reducible first | exact HB.out | apply below_alloc | apply pw_below_drewN | apply below_drew1) | exact HB.out)⟩


end Go.Proofs.Ytnkldnkolcighaa.XFnExactCutActs
