/- What the functions of a law compute, and that their calls compute it: written by a program of this session (xprint.py), which turns the kit print at a few places. -/
import Derived.Test.YtnkldnkolcighaaXFnExactCutActsx0
import Derived.Test.YtnkldnkolcighaaXFnExactCutActsx12
import Derived.Test.YtnkldnkolcighaaXFnExactCutActsx15
namespace Go.Proofs.Ytnkldnkolcighaa.XFnExactCutActs
open Go.RowKit Go.Proofs.YtnkldnkolcighaaT.PrintWords Go.Proofs.YtnkldnkolcighaaT.PrintLast Go.Proofs.YtnkldnkolcighaaT.PrintMore
attribute [local go_sem] max2_int min2_int max_two min_two max_three min_three max_four min_four str_geq str_gtr   -- for this text's walks alone
set_option linter.unusedVariables false
set_option linter.unusedSimpArgs false

/-! ### impl_CutActs: function 30 -/
def impl_CutActs.f (k : Nat) (l0_0 : List (S67)) (l1 : List (S41)) (a2 : Int) (l3 : List Int) : Option ((List (S67)) × Bool) := (impl_within.f a2 0 (l1.length : Int)).bind fun t303 => (if t303 = true then (if 0 ≤ a2 then (if a2 ≤ (l1.length : Int) then ((impl_DoActs.f k l0_0 (l1.take (a2 : Int).toNat)).bind fun bt308 => (if bt308.2 < a2 then (some (([] : List (S67)), false)) else ((impl_LoseDisk.f k bt308.1 l3).bind fun bt313 => (some (bt313.1, bt313.2))))) else (none)) else (none)) else (some (([] : List (S67)), false)))
theorem impl_CutActs.mono : ∀ a0 a1 a2 a3 k, LeO (impl_CutActs.f k a0 a1 a2 a3) (impl_CutActs.f (k + 1) a0 a1 a2 a3) := by
 intro a0 a1 a2 a3 k
 unfold impl_CutActs.f
 repeat' first
   | (with_reducible exact LeO.refl _)
   | (with_reducible refine LeO.ite ?_ ?_)
   | (with_reducible refine LeO.bind ?_ (fun _ => ?_))
   | exact impl_DoActs.mono _ _ _
   | exact impl_LoseDisk.mono _ _ _
   | exact LeO.none _
   | refine LeO.ite ?_ ?_
   | refine LeO.bind ?_ (fun _ => ?_)
def impl_CutActs.T3 : Bool × List (List Nat × List Nat) := (true, [([], []), ([], []), ([], []), ([1, 2], [1, 2]), ([0, 3], [0, 3]), ([4], [4]), ([5], [5]), ([5], [5]), ([], []), ([8, 6, 4, 0, 1, 2, 3, 4, 5, 6, 8], [6, 8]), ([7, 9, 0, 1, 2, 3, 4, 5, 6, 7, 8, 9], [7])])
def impl_CutActs.B3 : List Nat := [0, 0, 0, 6, 15, 31, 63, 63, 0, 383, 1023]
theorem impl_CutActs.tab3 : rtab .any (opsOf Try.f30 3) = impl_CutActs.T3 := by kernel_rfl
theorem impl_CutActs.bits3 : waitsOk impl_CutActs.T3.2 impl_CutActs.B3 = true := by kernel_rfl
set_option maxHeartbeats 8000000 in
set_option maxRecDepth 100000 in
theorem impl_CutActs.calls (k : Nat) (A0_0 : Option Addr) (c0_0 : Nat) (l0_0 : List (S67)) (A1 : Option Addr) (c1 : Nat) (l1 : List (S41)) (a2 : Int) (A3 : Option Addr) (c3 : Nat) (l3 : List Int) (r1 : List (S67)) (r2 : Bool) (w : World) (hr0_0 : Kd.C k67 w A0_0 l0_0.length l0_0) (hc0_0 : l0_0.length ≤ c0_0) (hr1 : Kd.C k41 w A1 l1.length l1) (hc1 : l1.length ≤ c1) (hr3 : Kd.C (Kd.int .i64) w A3 l3.length l3) (hc3 : l3.length ≤ c3) (h : impl_CutActs.f k l0_0 l1 a2 l3 = some (r1, r2)) :
  Calls Try.prog 30 #[.agg #[.slice A0_0 l0_0.length c0_0], .slice A1 l1.length c1, .int .i64 a2, .slice A3 l3.length c3] w fun e w' => ∃ v0_ : Value, e = .returned (.tuple #[.agg #[v0_], .bool r2]) ∧ Kd.R k67 67 w' w.heap.size (fun _ => True) v0_ r1 ∧ Below w.heap.size w w' := by
 have hu30 := Try.underlying30
 have HR0_0 := AM hr0_0
 have HC0_0 := AM hc0_0
 clear hr0_0 hc0_0
 have HR1 := AM hr1
 have HC1 := AM hc1
 clear hr1 hc1
 have HR3 := AM hr3
 have HC3 := AM hc3
 clear hr3 hc3
 have HB := AM (Below.refl w.heap.size w)
 have H : ((impl_within.f a2 0 (l1.length : Int)).bind fun t303 => (if t303 = true then (if 0 ≤ a2 then (if a2 ≤ (l1.length : Int) then ((impl_DoActs.f k l0_0 (l1.take (a2 : Int).toNat)).bind fun bt308 => (if bt308.2 < a2 then (some (([] : List (S67)), false)) else ((impl_LoseDisk.f k bt308.1 l3).bind fun bt313 => (some (bt313.1, bt313.2))))) else (none)) else (none)) else (some (([] : List (S67)), false)))) = some (r1, r2) := h
 clear h
 replace H := bm H
 obtain ⟨t303, A50, H⟩ := H
 replace H : (if t303 = true then (if 0 ≤ a2 then (if a2 ≤ (l1.length : Int) then ((impl_DoActs.f k l0_0 (l1.take (a2 : Int).toNat)).bind fun bt308 => (if bt308.2 < a2 then (some (([] : List (S67)), false)) else ((impl_LoseDisk.f k bt308.1 l3).bind fun bt313 => (some (bt313.1, bt313.2))))) else (none)) else (none)) else (some (([] : List (S67)), false))) = some (r1, r2) := H
 have A5 := AM A50
 clear A50
 by_cases c6 : t303 = true
 ·subst c6
  have H1 : (if 0 ≤ a2 then (if a2 ≤ (l1.length : Int) then ((impl_DoActs.f k l0_0 (l1.take (a2 : Int).toNat)).bind fun bt308 => (if bt308.2 < a2 then (some (([] : List (S67)), false)) else ((impl_LoseDisk.f k bt308.1 l3).bind fun bt313 => (some (bt313.1, bt313.2))))) else (none)) else (none)) = some (r1, r2) := by rw [if_pos rfl] at H; exact H
  clear H
  have H := H1
  clear H1
  by_cases c7 : 0 ≤ a2
  ·rw [if_pos c7] at H
   have c7b0 := eq_true c7
   have c7b1 : decide (0 ≤ a2) = true := decide_eq_true c7
   clear c7
   by_cases c8 : a2 ≤ (l1.length : Int)
   ·rw [if_pos c8] at H
    have c8b0 := eq_true c8
    have c8b1 : decide (a2 ≤ (l1.length : Int)) = true := decide_eq_true c8
    clear c8
    obtain ⟨y304, hy304⟩ : ∃ y_ : List (S41), y_ = (l1.take (a2 : Int).toNat) := ⟨_, rfl⟩
    replace H : ((impl_DoActs.f k l0_0 y304).bind fun bt308 => (if bt308.2 < a2 then (some (([] : List (S67)), false)) else ((impl_LoseDisk.f k bt308.1 l3).bind fun bt313 => (some (bt313.1, bt313.2))))) = some (r1, r2) := by first | (rw [hy304]; with_reducible exact H) | (have H2_ := (Option.bind_some _ _).symm.trans H; rw [hy304]; with_reducible exact H2_) | (have H2_ := (Option.bind_some _ _).symm.trans H; with_reducible exact H2_) | with_reducible exact H | (rw [hy304]; exact H) | exact H
    have Ny304 := AM hy304
    clear hy304
    replace H := bm H
    obtain ⟨⟨t308, t311⟩, A90, H⟩ := H
    replace H : (if t311 < a2 then (some (([] : List (S67)), false)) else ((impl_LoseDisk.f k t308 l3).bind fun bt313 => (some (bt313.1, bt313.2)))) = some (r1, r2) := H
    have A9 := AM A90
    clear A90
    by_cases c10 : t311 < a2
    ·rw [if_pos c10] at H
     have c10b0 : decide (t311 < a2) = true := decide_eq_true c10
     clear c10
     simp only [Option.some.injEq, Prod.mk.injEq] at H
     obtain ⟨rfl, rfl⟩ := H
     go_enter Try.func30, Try.ntmps30
     try go_wp2_with (first | ((with_reducible refine gd 4 rfl ?_); refine bx (N := 4) (cs := #[.slice A0_0 l0_0.length c0_0]) (t := 30) ?_; intro gb301 hg w11 hbox hb; have BK301 := AM (hbox); have GW301 := AM (bs hg HB); have GE301 := AM (bs hg HB); replace HB := bq HB hb; clear hb hbox hg) | ((with_reducible refine gd 8 rfl ?_); refine bx (N := 8) (cs := #[.slice none 0 0]) (t := 30) ?_; intro gb302 hg w12 hbox hb; have BK302 := AM (hbox); have GW302 := AM (bt hg hS); have GE302 := AM (bt hg hS); replace HB := AM (below_step (hS) hb); have NB301_302 := AM (nl hg (bk BK301)); have NB302_301 := AM (ng hg (bk BK301)); replace BK301 := bw BK301 hb; clear hb hbox hg) | ((with_reducible refine gc 57 rfl ?_); refine goesL_ (some 15) rfl rfl Try.func57 (by kernel_rfl) rfl #[.int .i64 a2, .int .i64 0, .int .i64 (l1.length : Int)] rfl am ?_; (with_reducible refine (impl_within.calls a2 0 (l1.length : Int) true _ A5.out).mono ?_); rintro e w' ⟨rfl, ⟨nd, rfl⟩⟩; refine ⟨_, rfl, ?_⟩; (try (rw [drewN_self w12]; generalize hq_ : World.drewN w12 _ = w12; have n0_ : Aside0 (w12.heap[gb301]? = some (.cells #[.slice A0_0 l0_0.length c0_0] 30 (0, 0))) := ⟨by rw [← hq_]; exact (bk BK301)⟩; have n1_ : Aside0 (w12.heap[gb302]? = some (.cells #[.slice none 0 0] 30 (0, 0))) := ⟨by rw [← hq_]; exact (bk BK302)⟩; have n2_ : Aside0 (Below w.heap.size w w12) := ⟨by rw [← hq_]; exact (hS)⟩; clear BK301 BK302 HB hq_; have BK301 := n0_; have BK302 := n1_; have HB := n2_; clear n0_ n1_ n2_))))
     replace BK301 := AM (blk_drew BK301.out)
     replace BK302 := AM (blk_drew BK302.out)
     replace HB := AM (below_drew1 HB.out)
     have q14 : (a2 : Int) ≤ ((l1.length : Int) : Int) := od
     obtain ⟨i014, hi014, _, hsz14, _⟩ := info_parts info41
     have hroom14 : l1.length ≤ c1 := HC1.out
     have hC14 : Kd.C k41 _ A1 l1.length l1 := HR1.out
     have hcut14 := cut_to (P := Try.prog) 49 41 .i64 Try.underlying49 hi014 A1 l1.length c1 a2 (od) q14 hroom14
     have hr14 := Kd.C_take (m := (a2 : Int).toNat) hC14 (by omega)
     have hy14 : y304.length = (a2 : Int).toNat := (by rw [Ny304.out, List.length_take]; omega)
     rw [← Ny304.out] at hr14
     rw [← hy14] at hcut14
     have HR307 := AM hr14
     have HC307 := AM (show y304.length ≤ c1 from by omega)
     clear hr14 hC14 hroom14 hi014 hsz14
     have KY14 := AM hy14
     clear hy14
     replace q14 := eq_true q14
     refine start_ (n := 11) (S := fun w' => w'.cell? ⟨gb301, 0, none⟩ = some (.slice A0_0 l0_0.length c0_0)) (ds := []) #[false, false, false, false, false, false, false, false, false, false, false] (by kernel_rfl) rfl rfl (bc BK301 0) (fun hHeld => ?_); refine with_tabW impl_CutActs.tab3 impl_CutActs.bits3 (fun HT_ HW_ => ?_)
     generalize w12.drew = w13 at BK301 BK302 HB HR307 hHeld ⊢
     refine pure_ (i := 1) (N := some 20) (v := ?_) (a' := ?_) #[false, true, false, false, false, false, false, false, false, false, false] rfl rfl (any_of HT_.out (by kernel_rfl)) (fun _ _ _ h => h) (Or.inl ⟨by rfl, ?_⟩) ?_ ?_
     rotate_left
     ·intro w'
      go_simp
      with_reducible rfl
     rotate_left
     ·simp only [Act.put, qT, q0, qS, i64_w, i32_w]
      rfl
     refine pure_ (i := 2) (N := some 21) (v := ?_) (a' := ?_) #[false, true, true, false, false, false, false, false, false, false, false] rfl rfl (any_of HT_.out (by kernel_rfl)) (fun _ _ _ h => h) (Or.inl ⟨by rfl, ?_⟩) ?_ ?_
     rotate_left
     ·intro w'
      go_simp
      with_reducible rfl
     rotate_left
     ·simp only [Act.put, qT, q0, qS, i64_w, i32_w]
      rfl
     refine pure_ (i := 3) (N := some 22) (v := ?_) (a' := ?_) #[false, true, true, true, false, false, false, false, false, false, false] rfl rfl (any_of HT_.out (by kernel_rfl)) (fun _ _ _ h => h) (Or.inl ⟨by rfl, ?_⟩) ?_ ?_
     rotate_left
     ·intro w'
      go_simp
      with_reducible rfl
     rotate_left
     ·simp only [Act.put, qT, q0, qS, i64_w, i32_w]
      rfl
     refine take_ (i := 0) (N := some 19) (v := ?_) (a' := ?_) #[true, true, true, true, false, false, false, false, false, false, false] rfl rfl (take_ofW HT_.out HW_.out (by kernel_rfl)) (fun _ _ _ h => h) (Or.inl ⟨by rfl, ?_⟩) hHeld ?_ ?_
     rotate_left
     ·intro w' s0
      go_simp
      with_reducible rfl
     rotate_left
     ·simp only [Act.put, qT, q0, qS, i64_w, i32_w]
      rfl
     refine join_ (σ := Value × Nat) 2 #[true, true, true, true, true, true, true, true, true, false, false] (fun s_ => [(23, .tuple #[.agg #[s_.1], .int .i64 t311]), (10, .pointer (some ⟨s_.2, 0, none⟩)), (18, .tuple #[.agg #[s_.1], .int .i64 t311]), (24, .agg #[s_.1]), (25, .int .i64 t311)]) (fun s_ w' => (w'.cell? ⟨gb301, 0, none⟩ = some (.slice A0_0 l0_0.length c0_0)) ∧ (Kd.R k67 67 w' w.heap.size (fun _ => True) s_.1 t308) ∧ (w'.heap[gb301]? = some (.cells #[.slice A0_0 l0_0.length c0_0] 30 (0, 0))) ∧ (w'.heap[gb302]? = some (.cells #[.slice none 0 0] 30 (0, 0))) ∧ (w'.heap[s_.2]? = some (.cells #[.slice none 0 0] 30 (0, 0))) ∧ (w.heap.size ≤ s_.2) ∧ (w.heap.size ≤ s_.2) ∧ (gb301 ≠ s_.2) ∧ (s_.2 ≠ gb301) ∧ (gb302 ≠ s_.2) ∧ (s_.2 ≠ gb302) ∧ (Below w.heap.size w w')) ?_ ?_
     rotate_left
     ·intro hCont
      refine two_ (i := 4) (j := 8) (Ni := some 23) (Nj := some 10) #[true, true, true, true, true, false, false, false, false, false, false] #[true, true, true, true, false, false, false, false, true, false, false] rfl rfl rfl rfl (two_of HT_.out (by kernel_rfl)) (by decide) (by decide) (fun K hK => ?_) (fun K hK => ?_)
      ·skip
       refine goes_ Try.func25 (by kernel_rfl) rfl #[.agg #[.slice A0_0 l0_0.length c0_0], .slice A1 y304.length c1] (by rfl) rfl rfl am ?_
       with_reducible refine (impl_DoActs.calls k _ _ l0_0 _ _ y304 t308 t311 _ ?side1 ?side2 ?side3 ?side4 A9.out).mono ?_
       (case side1 => repeat (first | exact (Kd.C_below HR0_0.out HB.out) | (with_reducible first | refine cA ?_ _ | refine cN ?_ _ | refine cD ?_)))
       (case side2 => exact HC0_0.out)
       (case side3 => repeat (first | exact (Kd.C_below HR307.out HB.out) | (with_reducible first | refine cA ?_ _ | refine cN ?_ _ | refine cD ?_)))
       (case side4 => exact HC307.out)
       rintro e w15 ⟨v309, rfl, ho0, hb⟩
       refine ⟨_, rfl, ?_⟩
       have HO310 := AM (Kd.R_lower ho0 (below_size (hS)))
       replace BK301 := bw BK301 hb
       replace BK302 := bw BK302 hb
       replace HB := AM (below_step (hS) hb)
       (try clear hb)
       (try clear hb2)
       (try clear hk)
       (try clear hi)
       (try clear ho0)
       refine hK.out _ _ (bc BK301 0) (fun hHeld => ?_)
       clear hK K
       refine norm_ (a' := ?_) ?_ ?_
       rotate_left
       ·show Act.put _ (some 23) _ = _
        simp only [Act.put, qT, q0, qS, i64_w, i32_w]
        rfl
       refine pure_ (i := 5) (N := some 18) (v := ?_) (a' := ?_) #[true, true, true, true, true, true, false, false, false, false, false] rfl rfl (any_of HT_.out (by kernel_rfl)) (fun _ _ _ h => h) (Or.inl ⟨by rfl, ?_⟩) ?_ ?_
       rotate_left
       ·intro w'
        go_simp
        with_reducible rfl
       rotate_left
       ·simp only [Act.put, qT, q0, qS, i64_w, i32_w]
        rfl
       refine pure_ (i := 6) (N := some 24) (v := ?_) (a' := ?_) #[true, true, true, true, true, true, true, false, false, false, false] rfl rfl (any_of HT_.out (by kernel_rfl)) (fun _ _ _ h => h) (Or.inl ⟨by rfl, ?_⟩) ?_ ?_
       rotate_left
       ·intro w'
        go_simp
        with_reducible rfl
       rotate_left
       ·simp only [Act.put, qT, q0, qS, i64_w, i32_w]
        rfl
       refine pure_ (i := 7) (N := some 25) (v := ?_) (a' := ?_) #[true, true, true, true, true, true, true, true, false, false, false] rfl rfl (any_of HT_.out (by kernel_rfl)) (fun _ _ _ h => h) (Or.inl ⟨by rfl, ?_⟩) ?_ ?_
       rotate_left
       ·intro w'
        go_simp
        with_reducible rfl
       rotate_left
       ·simp only [Act.put, qT, q0, qS, i64_w, i32_w]
        rfl
       refine one_ (i := 8) (N := some 10) #[true, true, true, true, true, true, true, true, true, false, false] rfl rfl (one_of HT_.out (by kernel_rfl)) (by decide) (fun K hK => ?_)
       refine box_step ?hg (N := 10) ?hd (cs := #[.slice none 0 0]) (t := 30) ?hr ?_; (case hd => rfl); (case hg => rfl); (case hr => first | (go_simp; done) | (go_simp; rfl))
       intro gb312 hg w16 hbox hb
       replace HO310 := AM (Kd.R_below (by exact HO310.out) hb)
       have BK312 := AM (hbox)
       have GW312 := AM (bt hg hS)
       have GE312 := AM (bt hg hS)
       replace HB := AM (below_step (hS) hb)
       have NB301_312 := AM (nl hg (bk BK301))
       have NB312_301 := AM (ng hg (bk BK301))
       replace BK301 := bw BK301 hb
       have NB302_312 := AM (nl hg (bk BK302))
       have NB312_302 := AM (ng hg (bk BK302))
       replace BK302 := bw BK302 hb
       clear hb hbox hg
       refine hK.out _ _ (bc BK301 0) (fun hHeld => ?_)
       clear hK K
       refine norm_ (a' := ?_) ?_ ?_
       rotate_left
       ·show Act.put _ (some 10) _ = _
        simp only [Act.put, qT, q0, qS, i64_w, i32_w]
        rfl
       exact norm_ (by simp only [putAll, Act.put, qT, q0, qS]) (hCont (v309, gb312) _ ⟨hHeld, (by exact HO310.out), (bk BK301), (bk BK302), (bk BK312), GW312.out, GE312.out, NB301_312.out, NB312_301.out, NB302_312.out, NB312_302.out, (hS)⟩)
      skip
      refine box_step ?hg (N := 10) ?hd (cs := #[.slice none 0 0]) (t := 30) ?hr ?_; (case hd => rfl); (case hg => rfl); (case hr => first | (go_simp; done) | (go_simp; rfl))
      intro gb312 hg w15 hbox hb
      have BK312 := AM (hbox)
      have GW312 := AM (bt hg hS)
      have GE312 := AM (bt hg hS)
      replace HB := AM (below_step (hS) hb)
      have NB301_312 := AM (nl hg (bk BK301))
      have NB312_301 := AM (ng hg (bk BK301))
      replace BK301 := bw BK301 hb
      have NB302_312 := AM (nl hg (bk BK302))
      have NB312_302 := AM (ng hg (bk BK302))
      replace BK302 := bw BK302 hb
      clear hb hbox hg
      refine hK.out _ _ (bc BK301 0) (fun hHeld => ?_)
      clear hK K
      refine norm_ (a' := ?_) ?_ ?_
      rotate_left
      ·show Act.put _ (some 10) _ = _
       simp only [Act.put, qT, q0, qS, i64_w, i32_w]
       rfl
      refine one_ (i := 4) (N := some 23) #[true, true, true, true, true, false, false, false, true, false, false] rfl rfl (one_of HT_.out (by kernel_rfl)) (by decide) (fun K hK => ?_)
      refine goes_ Try.func25 (by kernel_rfl) rfl #[.agg #[.slice A0_0 l0_0.length c0_0], .slice A1 y304.length c1] (by rfl) rfl rfl am ?_
      with_reducible refine (impl_DoActs.calls k _ _ l0_0 _ _ y304 t308 t311 _ ?side1 ?side2 ?side3 ?side4 A9.out).mono ?_
      (case side1 => repeat (first | exact (Kd.C_below HR0_0.out HB.out) | (with_reducible first | refine cA ?_ _ | refine cN ?_ _ | refine cD ?_)))
      (case side2 => exact HC0_0.out)
      (case side3 => repeat (first | exact (Kd.C_below HR307.out HB.out) | (with_reducible first | refine cA ?_ _ | refine cN ?_ _ | refine cD ?_)))
      (case side4 => exact HC307.out)
      rintro e w16 ⟨v309, rfl, ho0, hb⟩
      refine ⟨_, rfl, ?_⟩
      have HO310 := AM (Kd.R_lower ho0 (below_size (hS)))
      replace BK301 := bw BK301 hb
      replace BK302 := bw BK302 hb
      replace BK312 := bw BK312 hb
      replace HB := AM (below_step (hS) hb)
      (try clear hb)
      (try clear hb2)
      (try clear hk)
      (try clear hi)
      (try clear ho0)
      refine hK.out _ _ (bc BK301 0) (fun hHeld => ?_)
      clear hK K
      refine norm_ (a' := ?_) ?_ ?_
      rotate_left
      ·show Act.put _ (some 23) _ = _
       simp only [Act.put, qT, q0, qS, i64_w, i32_w]
       rfl
      refine pure_ (i := 5) (N := some 18) (v := ?_) (a' := ?_) #[true, true, true, true, true, true, false, false, true, false, false] rfl rfl (any_of HT_.out (by kernel_rfl)) (fun _ _ _ h => h) (Or.inl ⟨by rfl, ?_⟩) ?_ ?_
      rotate_left
      ·intro w'
       go_simp
       with_reducible rfl
      rotate_left
      ·simp only [Act.put, qT, q0, qS, i64_w, i32_w]
       rfl
      refine pure_ (i := 6) (N := some 24) (v := ?_) (a' := ?_) #[true, true, true, true, true, true, true, false, true, false, false] rfl rfl (any_of HT_.out (by kernel_rfl)) (fun _ _ _ h => h) (Or.inl ⟨by rfl, ?_⟩) ?_ ?_
      rotate_left
      ·intro w'
       go_simp
       with_reducible rfl
      rotate_left
      ·simp only [Act.put, qT, q0, qS, i64_w, i32_w]
       rfl
      refine pure_ (i := 7) (N := some 25) (v := ?_) (a' := ?_) #[true, true, true, true, true, true, true, true, true, false, false] rfl rfl (any_of HT_.out (by kernel_rfl)) (fun _ _ _ h => h) (Or.inl ⟨by rfl, ?_⟩) ?_ ?_
      rotate_left
      ·intro w'
       go_simp
       with_reducible rfl
      rotate_left
      ·simp only [Act.put, qT, q0, qS, i64_w, i32_w]
       rfl
      exact norm_ (by simp only [putAll, Act.put, qT, q0, qS]) (hCont (v309, gb312) _ ⟨hHeld, (by exact HO310.out), (bk BK301), (bk BK302), (bk BK312), GW312.out, GE312.out, NB301_312.out, NB312_301.out, NB302_312.out, NB312_302.out, (hS)⟩)
     rintro ⟨v309, gb312⟩ w17 ⟨hS_, h0_, h1_, h2_, h3_, h4_, h5_, h6_, h7_, h8_, h9_, h10_⟩
     have n0_ : Aside0 (Kd.R k67 67 w17 w.heap.size (fun _ => True) v309 t308) := ⟨h0_⟩
     have n1_ : Aside0 (w17.heap[gb301]? = some (.cells #[.slice A0_0 l0_0.length c0_0] 30 (0, 0))) := ⟨h1_⟩
     have n2_ : Aside0 (w17.heap[gb302]? = some (.cells #[.slice none 0 0] 30 (0, 0))) := ⟨h2_⟩
     have n3_ : Aside0 (w17.heap[gb312]? = some (.cells #[.slice none 0 0] 30 (0, 0))) := ⟨h3_⟩
     have n4_ : Aside0 (w.heap.size ≤ gb312) := ⟨h4_⟩
     have n5_ : Aside0 (w.heap.size ≤ gb312) := ⟨h5_⟩
     have n6_ : Aside0 (gb301 ≠ gb312) := ⟨h6_⟩
     have n7_ : Aside0 (gb312 ≠ gb301) := ⟨h7_⟩
     have n8_ : Aside0 (gb302 ≠ gb312) := ⟨h8_⟩
     have n9_ : Aside0 (gb312 ≠ gb302) := ⟨h9_⟩
     have n10_ : Aside0 (Below w.heap.size w w17) := ⟨h10_⟩
     clear BK301
     clear BK302
     clear HB
     clear h0_ h1_ h2_ h3_ h4_ h5_ h6_ h7_ h8_ h9_ h10_
     have HO310 := n0_
     have BK301 := n1_
     have BK302 := n2_
     have BK312 := n3_
     have GW312 := n4_
     have GE312 := n5_
     have NB301_312 := n6_
     have NB312_301 := n7_
     have NB302_312 := n8_
     have NB312_302 := n9_
     have HB := n10_
     clear n0_ n1_ n2_ n3_ n4_ n5_ n6_ n7_ n8_ n9_ n10_
     have hHeld : w17.cell? ⟨gb301, 0, none⟩ = some (.slice A0_0 l0_0.length c0_0) := hS_
     obtain ⟨Ao18, co18, eo18⟩ := Kd.R_slice HO310.out
     (first | subst eo18 | (injection eo18 with f1_ f2_ f3_; have f4_ := f1_.symm; have f5_ := f3_.symm; clear f1_ f2_ f3_; subst f4_; subst f5_))
     refine norm_ (a' := ?_) ?_ ?_
     rotate_left
     ·simp only [putAll, Act.put, qT, q0, qS]
      rfl
     refine one_ (i := 9) (N := none) #[true, true, true, true, true, true, true, true, true, true, false] rfl rfl (one_of HT_.out (by kernel_rfl)) (by decide) (fun K hK => ?_)
     have hs19 : w17.cell? ⟨gb312, 0, none⟩ = some (.slice none 0 0) := bc BK312 0
     have hfs19 := bz BK312 0
     have hns19_0 := NB301_312.out
     have hns19_1 := NB302_312.out
     have hms19_0 := NB312_301.out
     have hms19_1 := NB312_302.out
     refine skip_ (w1 := ?_) (by rfl) rfl ?_ ?_
     rotate_left
     ·go_simp
      rfl
     refine hK.out _ _ (((cell_far (p := ⟨gb312, _, none⟩) NB301_312.out _).trans (hHeld))) (fun hHeld => ?_)
     clear hK K
     refine pure_ (i := 10) (N := some 11) (v := ?_) (a' := ?_) #[true, true, true, true, true, true, true, true, true, true, true] rfl rfl (any_of HT_.out (by kernel_rfl)) (fun _ _ _ h => h) (Or.inl ⟨by rfl, ?_⟩) ?_ ?_
     rotate_left
     ·intro w'
      go_simp
      with_reducible rfl
     rotate_left
     ·simp only [Act.put, qT, q0, qS, i64_w, i32_w]
      rfl
     refine done_ (done_of HT_.out (by kernel_rfl)) ?_
     have hnb20 := NB302_301.out
     have hnc20 := NB301_302.out
     have hnb21 := NB302_312.out
     have hnc21 := NB312_302.out
     have hcz22_0 := bv BK302 0 (.slice none 0 0)
     have hfz22_0 := bz BK302 0
     try go_wp2
     refine bodyPost_ret (results_ct rfl _ _ gb302 30 #[.slice none 0 0] (0, 0) _ rfl (by (with_reducible repeat first | apply aN | apply aD | apply aA); refine blk_put (cs := #[.slice none 0 0]) ?_ 0 _ rfl; (with_reducible repeat first | apply aN | apply aD | apply aA); refine blk_far ?_ NB302_312.out _; exact bk BK302) Try.underlying30 rfl (by kernel_rfl)) rfl ?_
     exact ⟨_, er, by first | exact Kd.R_nil _ _ _ _ _ | exact Kd.N_nil _ _ _ _ _ | exact Kd.V_nil _ _ _ _ _ | exact Kd.Q_nil _ _ _ _ _ | exact Kd.S_nil _ _ _ _ _, hS⟩
    rw [if_neg c10] at H
    have c10b0 : decide (t311 < a2) = false := decide_eq_false c10
    clear c10
    replace H := bm H
    obtain ⟨⟨t313, t316⟩, A230, H⟩ := H
    replace H : (some (t313, t316)) = some (r1, r2) := H
    have A23 := AM A230
    clear A230
    simp only [Option.some.injEq, Prod.mk.injEq] at H
    obtain ⟨rfl, rfl⟩ := H
    go_enter Try.func30, Try.ntmps30
    try go_wp2_with (first | ((with_reducible refine gd 4 rfl ?_); refine bx (N := 4) (cs := #[.slice A0_0 l0_0.length c0_0]) (t := 30) ?_; intro gb301 hg w24 hbox hb; have BK301 := AM (hbox); have GW301 := AM (bs hg HB); have GE301 := AM (bs hg HB); replace HB := bq HB hb; clear hb hbox hg) | ((with_reducible refine gd 8 rfl ?_); refine bx (N := 8) (cs := #[.slice none 0 0]) (t := 30) ?_; intro gb302 hg w25 hbox hb; have BK302 := AM (hbox); have GW302 := AM (bt hg hS); have GE302 := AM (bt hg hS); replace HB := AM (below_step (hS) hb); have NB301_302 := AM (nl hg (bk BK301)); have NB302_301 := AM (ng hg (bk BK301)); replace BK301 := bw BK301 hb; clear hb hbox hg) | ((with_reducible refine gc 57 rfl ?_); refine goesL_ (some 15) rfl rfl Try.func57 (by kernel_rfl) rfl #[.int .i64 a2, .int .i64 0, .int .i64 (l1.length : Int)] rfl am ?_; (with_reducible refine (impl_within.calls a2 0 (l1.length : Int) true _ A5.out).mono ?_); rintro e w' ⟨rfl, ⟨nd, rfl⟩⟩; refine ⟨_, rfl, ?_⟩; (try (rw [drewN_self w25]; generalize hq_ : World.drewN w25 _ = w25; have n0_ : Aside0 (w25.heap[gb301]? = some (.cells #[.slice A0_0 l0_0.length c0_0] 30 (0, 0))) := ⟨by rw [← hq_]; exact (bk BK301)⟩; have n1_ : Aside0 (w25.heap[gb302]? = some (.cells #[.slice none 0 0] 30 (0, 0))) := ⟨by rw [← hq_]; exact (bk BK302)⟩; have n2_ : Aside0 (Below w.heap.size w w25) := ⟨by rw [← hq_]; exact (hS)⟩; clear BK301 BK302 HB hq_; have BK301 := n0_; have BK302 := n1_; have HB := n2_; clear n0_ n1_ n2_))))
    replace BK301 := AM (blk_drew BK301.out)
    replace BK302 := AM (blk_drew BK302.out)
    replace HB := AM (below_drew1 HB.out)
    have q27 : (a2 : Int) ≤ ((l1.length : Int) : Int) := od
    obtain ⟨i027, hi027, _, hsz27, _⟩ := info_parts info41
    have hroom27 : l1.length ≤ c1 := HC1.out
    have hC27 : Kd.C k41 _ A1 l1.length l1 := HR1.out
    have hcut27 := cut_to (P := Try.prog) 49 41 .i64 Try.underlying49 hi027 A1 l1.length c1 a2 (od) q27 hroom27
    have hr27 := Kd.C_take (m := (a2 : Int).toNat) hC27 (by omega)
    have hy27 : y304.length = (a2 : Int).toNat := (by rw [Ny304.out, List.length_take]; omega)
    rw [← Ny304.out] at hr27
    rw [← hy27] at hcut27
    have HR307 := AM hr27
    have HC307 := AM (show y304.length ≤ c1 from by omega)
    clear hr27 hC27 hroom27 hi027 hsz27
    have KY27 := AM hy27
    clear hy27
    replace q27 := eq_true q27
    refine start_ (n := 11) (S := fun w' => w'.cell? ⟨gb301, 0, none⟩ = some (.slice A0_0 l0_0.length c0_0)) (ds := []) #[false, false, false, false, false, false, false, false, false, false, false] (by kernel_rfl) rfl rfl (bc BK301 0) (fun hHeld => ?_); refine with_tabW impl_CutActs.tab3 impl_CutActs.bits3 (fun HT_ HW_ => ?_)
    generalize w25.drew = w26 at BK301 BK302 HB HR307 hHeld ⊢
    refine pure_ (i := 1) (N := some 20) (v := ?_) (a' := ?_) #[false, true, false, false, false, false, false, false, false, false, false] rfl rfl (any_of HT_.out (by kernel_rfl)) (fun _ _ _ h => h) (Or.inl ⟨by rfl, ?_⟩) ?_ ?_
    rotate_left
    ·intro w'
     go_simp
     with_reducible rfl
    rotate_left
    ·simp only [Act.put, qT, q0, qS, i64_w, i32_w]
     rfl
    refine pure_ (i := 2) (N := some 21) (v := ?_) (a' := ?_) #[false, true, true, false, false, false, false, false, false, false, false] rfl rfl (any_of HT_.out (by kernel_rfl)) (fun _ _ _ h => h) (Or.inl ⟨by rfl, ?_⟩) ?_ ?_
    rotate_left
    ·intro w'
     go_simp
     with_reducible rfl
    rotate_left
    ·simp only [Act.put, qT, q0, qS, i64_w, i32_w]
     rfl
    refine pure_ (i := 3) (N := some 22) (v := ?_) (a' := ?_) #[false, true, true, true, false, false, false, false, false, false, false] rfl rfl (any_of HT_.out (by kernel_rfl)) (fun _ _ _ h => h) (Or.inl ⟨by rfl, ?_⟩) ?_ ?_
    rotate_left
    ·intro w'
     go_simp
     with_reducible rfl
    rotate_left
    ·simp only [Act.put, qT, q0, qS, i64_w, i32_w]
     rfl
    refine take_ (i := 0) (N := some 19) (v := ?_) (a' := ?_) #[true, true, true, true, false, false, false, false, false, false, false] rfl rfl (take_ofW HT_.out HW_.out (by kernel_rfl)) (fun _ _ _ h => h) (Or.inl ⟨by rfl, ?_⟩) hHeld ?_ ?_
    rotate_left
    ·intro w' s0
     go_simp
     with_reducible rfl
    rotate_left
    ·simp only [Act.put, qT, q0, qS, i64_w, i32_w]
     rfl
    refine join_ (σ := Value × Nat) 2 #[true, true, true, true, true, true, true, true, true, false, false] (fun s_ => [(23, .tuple #[.agg #[s_.1], .int .i64 t311]), (10, .pointer (some ⟨s_.2, 0, none⟩)), (18, .tuple #[.agg #[s_.1], .int .i64 t311]), (24, .agg #[s_.1]), (25, .int .i64 t311)]) (fun s_ w' => (w'.cell? ⟨gb301, 0, none⟩ = some (.slice A0_0 l0_0.length c0_0)) ∧ (Kd.R k67 67 w' w.heap.size (fun _ => True) s_.1 t308) ∧ (w'.heap[gb301]? = some (.cells #[.slice A0_0 l0_0.length c0_0] 30 (0, 0))) ∧ (w'.heap[gb302]? = some (.cells #[.slice none 0 0] 30 (0, 0))) ∧ (w'.heap[s_.2]? = some (.cells #[.slice none 0 0] 30 (0, 0))) ∧ (w.heap.size ≤ s_.2) ∧ (w.heap.size ≤ s_.2) ∧ (gb301 ≠ s_.2) ∧ (s_.2 ≠ gb301) ∧ (gb302 ≠ s_.2) ∧ (s_.2 ≠ gb302) ∧ (Below w.heap.size w w')) ?_ ?_
    rotate_left
    ·intro hCont
     refine two_ (i := 4) (j := 8) (Ni := some 23) (Nj := some 10) #[true, true, true, true, true, false, false, false, false, false, false] #[true, true, true, true, false, false, false, false, true, false, false] rfl rfl rfl rfl (two_of HT_.out (by kernel_rfl)) (by decide) (by decide) (fun K hK => ?_) (fun K hK => ?_)
     ·skip
      refine goes_ Try.func25 (by kernel_rfl) rfl #[.agg #[.slice A0_0 l0_0.length c0_0], .slice A1 y304.length c1] (by rfl) rfl rfl am ?_
      with_reducible refine (impl_DoActs.calls k _ _ l0_0 _ _ y304 t308 t311 _ ?side1 ?side2 ?side3 ?side4 A9.out).mono ?_
      (case side1 => repeat (first | exact (Kd.C_below HR0_0.out HB.out) | (with_reducible first | refine cA ?_ _ | refine cN ?_ _ | refine cD ?_)))
      (case side2 => exact HC0_0.out)
      (case side3 => repeat (first | exact (Kd.C_below HR307.out HB.out) | (with_reducible first | refine cA ?_ _ | refine cN ?_ _ | refine cD ?_)))
      (case side4 => exact HC307.out)
      rintro e w28 ⟨v309, rfl, ho0, hb⟩
      refine ⟨_, rfl, ?_⟩
      have HO310 := AM (Kd.R_lower ho0 (below_size (hS)))
      replace BK301 := bw BK301 hb
      replace BK302 := bw BK302 hb
      replace HB := AM (below_step (hS) hb)
      (try clear hb)
      (try clear hb2)
      (try clear hk)
      (try clear hi)
      (try clear ho0)
      refine hK.out _ _ (bc BK301 0) (fun hHeld => ?_)
      clear hK K
      refine norm_ (a' := ?_) ?_ ?_
      rotate_left
      ·show Act.put _ (some 23) _ = _
       simp only [Act.put, qT, q0, qS, i64_w, i32_w]
       rfl
      refine pure_ (i := 5) (N := some 18) (v := ?_) (a' := ?_) #[true, true, true, true, true, true, false, false, false, false, false] rfl rfl (any_of HT_.out (by kernel_rfl)) (fun _ _ _ h => h) (Or.inl ⟨by rfl, ?_⟩) ?_ ?_
      rotate_left
      ·intro w'
       go_simp
       with_reducible rfl
      rotate_left
      ·simp only [Act.put, qT, q0, qS, i64_w, i32_w]
       rfl
      refine pure_ (i := 6) (N := some 24) (v := ?_) (a' := ?_) #[true, true, true, true, true, true, true, false, false, false, false] rfl rfl (any_of HT_.out (by kernel_rfl)) (fun _ _ _ h => h) (Or.inl ⟨by rfl, ?_⟩) ?_ ?_
      rotate_left
      ·intro w'
       go_simp
       with_reducible rfl
      rotate_left
      ·simp only [Act.put, qT, q0, qS, i64_w, i32_w]
       rfl
      refine pure_ (i := 7) (N := some 25) (v := ?_) (a' := ?_) #[true, true, true, true, true, true, true, true, false, false, false] rfl rfl (any_of HT_.out (by kernel_rfl)) (fun _ _ _ h => h) (Or.inl ⟨by rfl, ?_⟩) ?_ ?_
      rotate_left
      ·intro w'
       go_simp
       with_reducible rfl
      rotate_left
      ·simp only [Act.put, qT, q0, qS, i64_w, i32_w]
       rfl
      refine one_ (i := 8) (N := some 10) #[true, true, true, true, true, true, true, true, true, false, false] rfl rfl (one_of HT_.out (by kernel_rfl)) (by decide) (fun K hK => ?_)
      refine box_step ?hg (N := 10) ?hd (cs := #[.slice none 0 0]) (t := 30) ?hr ?_; (case hd => rfl); (case hg => rfl); (case hr => first | (go_simp; done) | (go_simp; rfl))
      intro gb312 hg w29 hbox hb
      replace HO310 := AM (Kd.R_below (by exact HO310.out) hb)
      have BK312 := AM (hbox)
      have GW312 := AM (bt hg hS)
      have GE312 := AM (bt hg hS)
      replace HB := AM (below_step (hS) hb)
      have NB301_312 := AM (nl hg (bk BK301))
      have NB312_301 := AM (ng hg (bk BK301))
      replace BK301 := bw BK301 hb
      have NB302_312 := AM (nl hg (bk BK302))
      have NB312_302 := AM (ng hg (bk BK302))
      replace BK302 := bw BK302 hb
      clear hb hbox hg
      refine hK.out _ _ (bc BK301 0) (fun hHeld => ?_)
      clear hK K
      refine norm_ (a' := ?_) ?_ ?_
      rotate_left
      ·show Act.put _ (some 10) _ = _
       simp only [Act.put, qT, q0, qS, i64_w, i32_w]
       rfl
      exact norm_ (by simp only [putAll, Act.put, qT, q0, qS]) (hCont (v309, gb312) _ ⟨hHeld, (by exact HO310.out), (bk BK301), (bk BK302), (bk BK312), GW312.out, GE312.out, NB301_312.out, NB312_301.out, NB302_312.out, NB312_302.out, (hS)⟩)
     skip
     refine box_step ?hg (N := 10) ?hd (cs := #[.slice none 0 0]) (t := 30) ?hr ?_; (case hd => rfl); (case hg => rfl); (case hr => first | (go_simp; done) | (go_simp; rfl))
     intro gb312 hg w28 hbox hb
     have BK312 := AM (hbox)
     have GW312 := AM (bt hg hS)
     have GE312 := AM (bt hg hS)
     replace HB := AM (below_step (hS) hb)
     have NB301_312 := AM (nl hg (bk BK301))
     have NB312_301 := AM (ng hg (bk BK301))
     replace BK301 := bw BK301 hb
     have NB302_312 := AM (nl hg (bk BK302))
     have NB312_302 := AM (ng hg (bk BK302))
     replace BK302 := bw BK302 hb
     clear hb hbox hg
     refine hK.out _ _ (bc BK301 0) (fun hHeld => ?_)
     clear hK K
     refine norm_ (a' := ?_) ?_ ?_
     rotate_left
     ·show Act.put _ (some 10) _ = _
      simp only [Act.put, qT, q0, qS, i64_w, i32_w]
      rfl
     refine one_ (i := 4) (N := some 23) #[true, true, true, true, true, false, false, false, true, false, false] rfl rfl (one_of HT_.out (by kernel_rfl)) (by decide) (fun K hK => ?_)
     refine goes_ Try.func25 (by kernel_rfl) rfl #[.agg #[.slice A0_0 l0_0.length c0_0], .slice A1 y304.length c1] (by rfl) rfl rfl am ?_
     with_reducible refine (impl_DoActs.calls k _ _ l0_0 _ _ y304 t308 t311 _ ?side1 ?side2 ?side3 ?side4 A9.out).mono ?_
     (case side1 => repeat (first | exact (Kd.C_below HR0_0.out HB.out) | (with_reducible first | refine cA ?_ _ | refine cN ?_ _ | refine cD ?_)))
     (case side2 => exact HC0_0.out)
     (case side3 => repeat (first | exact (Kd.C_below HR307.out HB.out) | (with_reducible first | refine cA ?_ _ | refine cN ?_ _ | refine cD ?_)))
     (case side4 => exact HC307.out)
     rintro e w29 ⟨v309, rfl, ho0, hb⟩
     refine ⟨_, rfl, ?_⟩
     have HO310 := AM (Kd.R_lower ho0 (below_size (hS)))
     replace BK301 := bw BK301 hb
     replace BK302 := bw BK302 hb
     replace BK312 := bw BK312 hb
     replace HB := AM (below_step (hS) hb)
     (try clear hb)
     (try clear hb2)
     (try clear hk)
     (try clear hi)
     (try clear ho0)
     refine hK.out _ _ (bc BK301 0) (fun hHeld => ?_)
     clear hK K
     refine norm_ (a' := ?_) ?_ ?_
     rotate_left
     ·show Act.put _ (some 23) _ = _
      simp only [Act.put, qT, q0, qS, i64_w, i32_w]
      rfl
     refine pure_ (i := 5) (N := some 18) (v := ?_) (a' := ?_) #[true, true, true, true, true, true, false, false, true, false, false] rfl rfl (any_of HT_.out (by kernel_rfl)) (fun _ _ _ h => h) (Or.inl ⟨by rfl, ?_⟩) ?_ ?_
     rotate_left
     ·intro w'
      go_simp
      with_reducible rfl
     rotate_left
     ·simp only [Act.put, qT, q0, qS, i64_w, i32_w]
      rfl
     refine pure_ (i := 6) (N := some 24) (v := ?_) (a' := ?_) #[true, true, true, true, true, true, true, false, true, false, false] rfl rfl (any_of HT_.out (by kernel_rfl)) (fun _ _ _ h => h) (Or.inl ⟨by rfl, ?_⟩) ?_ ?_
     rotate_left
     ·intro w'
      go_simp
      with_reducible rfl
     rotate_left
     ·simp only [Act.put, qT, q0, qS, i64_w, i32_w]
      rfl
     refine pure_ (i := 7) (N := some 25) (v := ?_) (a' := ?_) #[true, true, true, true, true, true, true, true, true, false, false] rfl rfl (any_of HT_.out (by kernel_rfl)) (fun _ _ _ h => h) (Or.inl ⟨by rfl, ?_⟩) ?_ ?_
     rotate_left
     ·intro w'
      go_simp
      with_reducible rfl
     rotate_left
     ·simp only [Act.put, qT, q0, qS, i64_w, i32_w]
      rfl
     exact norm_ (by simp only [putAll, Act.put, qT, q0, qS]) (hCont (v309, gb312) _ ⟨hHeld, (by exact HO310.out), (bk BK301), (bk BK302), (bk BK312), GW312.out, GE312.out, NB301_312.out, NB312_301.out, NB302_312.out, NB312_302.out, (hS)⟩)
    rintro ⟨v309, gb312⟩ w30 ⟨hS_, h0_, h1_, h2_, h3_, h4_, h5_, h6_, h7_, h8_, h9_, h10_⟩
    have n0_ : Aside0 (Kd.R k67 67 w30 w.heap.size (fun _ => True) v309 t308) := ⟨h0_⟩
    have n1_ : Aside0 (w30.heap[gb301]? = some (.cells #[.slice A0_0 l0_0.length c0_0] 30 (0, 0))) := ⟨h1_⟩
    have n2_ : Aside0 (w30.heap[gb302]? = some (.cells #[.slice none 0 0] 30 (0, 0))) := ⟨h2_⟩
    have n3_ : Aside0 (w30.heap[gb312]? = some (.cells #[.slice none 0 0] 30 (0, 0))) := ⟨h3_⟩
    have n4_ : Aside0 (w.heap.size ≤ gb312) := ⟨h4_⟩
    have n5_ : Aside0 (w.heap.size ≤ gb312) := ⟨h5_⟩
    have n6_ : Aside0 (gb301 ≠ gb312) := ⟨h6_⟩
    have n7_ : Aside0 (gb312 ≠ gb301) := ⟨h7_⟩
    have n8_ : Aside0 (gb302 ≠ gb312) := ⟨h8_⟩
    have n9_ : Aside0 (gb312 ≠ gb302) := ⟨h9_⟩
    have n10_ : Aside0 (Below w.heap.size w w30) := ⟨h10_⟩
    clear BK301
    clear BK302
    clear HB
    clear h0_ h1_ h2_ h3_ h4_ h5_ h6_ h7_ h8_ h9_ h10_
    have HO310 := n0_
    have BK301 := n1_
    have BK302 := n2_
    have BK312 := n3_
    have GW312 := n4_
    have GE312 := n5_
    have NB301_312 := n6_
    have NB312_301 := n7_
    have NB302_312 := n8_
    have NB312_302 := n9_
    have HB := n10_
    clear n0_ n1_ n2_ n3_ n4_ n5_ n6_ n7_ n8_ n9_ n10_
    have hHeld : w30.cell? ⟨gb301, 0, none⟩ = some (.slice A0_0 l0_0.length c0_0) := hS_
    obtain ⟨Ao31, co31, eo31⟩ := Kd.R_slice HO310.out
    (first | subst eo31 | (injection eo31 with f1_ f2_ f3_; have f4_ := f1_.symm; have f5_ := f3_.symm; clear f1_ f2_ f3_; subst f4_; subst f5_))
    refine norm_ (a' := ?_) ?_ ?_
    rotate_left
    ·simp only [putAll, Act.put, qT, q0, qS]
     rfl
    refine one_ (i := 9) (N := none) #[true, true, true, true, true, true, true, true, true, true, false] rfl rfl (one_of HT_.out (by kernel_rfl)) (by decide) (fun K hK => ?_)
    have hs32 : w30.cell? ⟨gb312, 0, none⟩ = some (.slice none 0 0) := bc BK312 0
    have hfs32 := bz BK312 0
    have hns32_0 := NB301_312.out
    have hns32_1 := NB302_312.out
    have hms32_0 := NB312_301.out
    have hms32_1 := NB312_302.out
    refine skip_ (w1 := ?_) (by rfl) rfl ?_ ?_
    rotate_left
    ·go_simp
     rfl
    refine hK.out _ _ (((cell_far (p := ⟨gb312, _, none⟩) NB301_312.out _).trans (hHeld))) (fun hHeld => ?_)
    clear hK K
    refine pure_ (i := 10) (N := some 11) (v := ?_) (a' := ?_) #[true, true, true, true, true, true, true, true, true, true, true] rfl rfl (any_of HT_.out (by kernel_rfl)) (fun _ _ _ h => h) (Or.inl ⟨by rfl, ?_⟩) ?_ ?_
    rotate_left
    ·intro w'
     go_simp
     with_reducible rfl
    rotate_left
    ·simp only [Act.put, qT, q0, qS, i64_w, i32_w]
     rfl
    refine done_ (done_of HT_.out (by kernel_rfl)) ?_
    have hnb33 := NB312_301.out
    have hnc33 := NB301_312.out
    have hnb34 := NB312_302.out
    have hnc34 := NB302_312.out
    have hcz35_0 := bv BK312 0 (.slice none 0 0)
    have hfz35_0 := bz BK312 0
    try go_wp2_with (first | ((with_reducible refine gc 58 rfl ?_); refine goesL_ (some 32) rfl rfl Try.func58 (by kernel_rfl) rfl #[.agg #[.slice Ao31 t308.length co31], .slice A3 l3.length c3] rfl am ?_; (with_reducible refine (impl_LoseDisk.calls k _ _ t308 _ _ l3 t313 t316 _ ?side1 ?side2 ?side3 ?side4 A23.out).mono ?_); (case side1 => refine (Kd.R_reads' (e := 67) (base := w.heap.size) (ok := fun k_ => True) (n := t308.length) (c := co31) ?_).2.2; exact (by exact (Kd.R_mono (Kd.R_far (p := ⟨gb312, 0, none⟩) (Kd.R_types HO310.out BK312.out (by decide)) (fun _ hk => hk.2) (.slice Ao31 t308.length co31)) (fun _ h_ => h_.1)))); (case side2 => exact (Kd.R_reads' HO310.out).2.1); (case side3 => exact Kd.C_below HR3.out (hS)); (case side4 => exact HC3.out); rintro e w36 ⟨v314, rfl, ho0, hb⟩; refine ⟨_, rfl, ?_⟩; have n0_ := AM (Kd.R_elder' (by exact (Kd.R_mono (Kd.R_far (p := ⟨gb312, 0, none⟩) (Kd.R_types HO310.out BK312.out (by decide)) (fun _ hk => hk.2) (.slice Ao31 t308.length co31)) (fun _ h_ => h_.1))) (Kd.R_base ho0) hb); have n1_ := AM (Kd.R_lower (Kd.R_new' ho0 (Kd.R_lt (by exact (Kd.R_mono (Kd.R_far (p := ⟨gb312, 0, none⟩) (Kd.R_types HO310.out BK312.out (by decide)) (fun _ hk => hk.2) (.slice Ao31 t308.length co31)) (fun _ h_ => h_.1))))) (below_size (hS))); have n2_ := AM (blk_below (g := gb301) (o := .cells #[.slice A0_0 l0_0.length c0_0] 30 (0, 0)) (be) hb); have n3_ := AM (blk_below (g := gb302) (o := .cells #[.slice none 0 0] 30 (0, 0)) (be) hb); have n4_ := AM (blk_below (g := gb312) (o := .cells #[.slice Ao31 t308.length co31] 30 (0, 0)) (by (with_reducible repeat first | apply aN | apply aD | apply aA); refine blk_put (cs := #[.slice none 0 0]) ?_ 0 _ rfl; exact bk BK312) hb); have n5_ := AM (below_step (hS) hb); clear HO310; clear BK301; clear BK302; clear BK312; clear HB; have HO310 := n0_; have HO315 := n1_; have BK301 := n2_; have BK302 := n3_; have BK312 := n4_; have HB := n5_; clear n0_ n1_ n2_ n3_ n4_ n5_; (try clear hb); (try clear hk); (try clear ho0); obtain ⟨Ao37, co37, eo37⟩ := Kd.R_slice HO315.out; subst eo37; have hnb38 := NB302_301.out; have hnc38 := NB301_302.out; have hcz39_0 := bv BK302 0 (.slice none 0 0); have hfz39_0 := bz BK302 0))
    refine bodyPost_ret (results_ct rfl _ _ gb302 30 #[.slice Ao37 t313.length co37] (0, 0) _ rfl (by (with_reducible repeat first | apply aN | apply aD | apply aA); refine blk_put (cs := #[.slice none 0 0]) ?_ 0 _ rfl; exact bk BK302) Try.underlying30 rfl (by kernel_rfl)) rfl ?_
    exact ⟨_, er, by exact Kd.R_mono (Kd.R_far (p := ⟨gb302, 0, none⟩) (Kd.R_types HO315.out BK302.out (by decide)) (fun _ hk => hk.2) (.slice Ao37 t313.length co37)) (fun _ hk => trivial), hS⟩
   rw [if_neg c8] at H
   exact absurd H (by simp)
  rw [if_neg c7] at H
  exact absurd H (by simp)
 replace c6 := Bool.eq_false_iff.mpr c6
 subst c6
 have H1 : (some (([] : List (S67)), false)) = some (r1, r2) := by rw [if_neg (show ¬ (false = true) by decide)] at H; exact H
 clear H
 have H := H1
 clear H1
 simp only [Option.some.injEq, Prod.mk.injEq] at H
 obtain ⟨rfl, rfl⟩ := H
 go_enter Try.func30, Try.ntmps30
 go_wp2_with (first | ((with_reducible refine gd 4 rfl ?_); refine bx (N := 4) (cs := #[.slice A0_0 l0_0.length c0_0]) (t := 30) ?_; intro gb301 hg w40 hbox hb; have BK301 := AM (hbox); have GW301 := AM (bs hg HB); have GE301 := AM (bs hg HB); replace HB := bq HB hb; clear hb hbox hg) | ((with_reducible refine gd 8 rfl ?_); refine bx (N := 8) (cs := #[.slice none 0 0]) (t := 30) ?_; intro gb302 hg w41 hbox hb; have BK302 := AM (hbox); have GW302 := AM (bt hg hS); have GE302 := AM (bt hg hS); replace HB := AM (below_step (hS) hb); have NB301_302 := AM (nl hg (bk BK301)); have NB302_301 := AM (ng hg (bk BK301)); replace BK301 := bw BK301 hb; clear hb hbox hg) | ((with_reducible refine gc 57 rfl ?_); refine goesL_ (some 15) rfl rfl Try.func57 (by kernel_rfl) rfl #[.int .i64 a2, .int .i64 0, .int .i64 (l1.length : Int)] rfl am ?_; (with_reducible refine (impl_within.calls a2 0 (l1.length : Int) false _ A5.out).mono ?_); rintro e w' ⟨rfl, ⟨nd, rfl⟩⟩; refine ⟨_, rfl, ?_⟩; (try (rw [drewN_self w41]; generalize hq_ : World.drewN w41 _ = w41; have n0_ : Aside0 (w41.heap[gb301]? = some (.cells #[.slice A0_0 l0_0.length c0_0] 30 (0, 0))) := ⟨by rw [← hq_]; exact (bk BK301)⟩; have n1_ : Aside0 (w41.heap[gb302]? = some (.cells #[.slice none 0 0] 30 (0, 0))) := ⟨by rw [← hq_]; exact (bk BK302)⟩; have n2_ : Aside0 (Below w.heap.size w w41) := ⟨by rw [← hq_]; exact (hS)⟩; clear BK301 BK302 HB hq_; have BK301 := n0_; have BK302 := n1_; have HB := n2_; clear n0_ n1_ n2_)); have hnb42 := NB302_301.out; have hnc42 := NB301_302.out; have hcz43_0 := bv BK302 0 (.slice none 0 0); have hfz43_0 := bz BK302 0))
 refine bodyPost_ret (results_ct rfl _ _ gb302 30 #[.slice none 0 0] (0, 0) _ rfl (by (with_reducible repeat first | apply aN | apply aD | apply aA); refine blk_put (cs := #[.slice none 0 0]) ?_ 0 _ rfl; exact bk BK302) Try.underlying30 rfl (by kernel_rfl)) rfl ?_
 exact ⟨_, er, by first | exact Kd.R_nil _ _ _ _ _ | exact Kd.N_nil _ _ _ _ _ | exact Kd.V_nil _ _ _ _ _ | exact Kd.Q_nil _ _ _ _ _ | exact Kd.S_nil _ _ _ _ _, hS⟩

/-! ### laws_eqIntS: function 31 -/
def laws_eqIntS.l0 : Nat → List Int → List Int → Int → Option (Bool)
 | 0, _, _, _ => none
 | k + 1, x0, x1, x5 => if x5 < (x0.length : Int) then (if 0 ≤ x5 then (if x5 < (x1.length : Int) then (if (rd x0 x5) = (rd x1 x5) then (laws_eqIntS.l0 k x0 x1 (wrap64 (x5 + 1))) else (some false)) else (none)) else (none)) else (some true)
def laws_eqIntS.f (k : Nat) (l0 : List Int) (l1 : List Int) : Option (Bool) := if (l0.length : Int) = (l1.length : Int) then (laws_eqIntS.l0 k l0 l1 0) else (some false)
theorem laws_eqIntS.mono_l : ∀ k, (∀ y0 y1 y2, LeO (laws_eqIntS.l0 k y0 y1 y2) (laws_eqIntS.l0 (k + 1) y0 y1 y2))
 | 0 => fun _ _ _ r h => by simp [laws_eqIntS.l0] at h
 | k + 1 => by
  have ih0 := laws_eqIntS.mono_l k
  intro y0 y1 y2
  unfold laws_eqIntS.l0
  repeat' first
  | (with_reducible exact LeO.refl _)
  | (with_reducible refine LeO.ite ?_ ?_)
  | (with_reducible refine LeO.bind ?_ (fun _ => ?_))
  | exact ih0 _ _ _
  | exact LeO.none _
  | refine LeO.ite ?_ ?_
  | refine LeO.bind ?_ (fun _ => ?_)
theorem laws_eqIntS.mono : ∀ a0 a1 k, LeO (laws_eqIntS.f k a0 a1) (laws_eqIntS.f (k + 1) a0 a1) := by
 intro a0 a1 k
 have ih0 := laws_eqIntS.mono_l k
 unfold laws_eqIntS.f
 repeat' first
   | (with_reducible exact LeO.refl _)
   | (with_reducible refine LeO.ite ?_ ?_)
   | (with_reducible refine LeO.bind ?_ (fun _ => ?_))
   | exact ih0 _ _ _
   | exact LeO.none _
   | refine LeO.ite ?_ ?_
   | refine LeO.bind ?_ (fun _ => ?_)
set_option maxHeartbeats 8000000 in
set_option maxRecDepth 100000 in
theorem laws_eqIntS.calls (k : Nat) (A0 : Option Addr) (c0 : Nat) (l0 : List Int) (A1 : Option Addr) (c1 : Nat) (l1 : List Int) (r : Bool) (w : World) (hr0 : Kd.C (Kd.int .i64) w A0 l0.length l0) (hc0 : l0.length ≤ c0) (hr1 : Kd.C (Kd.int .i64) w A1 l1.length l1) (hc1 : l1.length ≤ c1) (h : laws_eqIntS.f k l0 l1 = some r) :
  Calls Try.prog 31 #[.slice A0 l0.length c0, .slice A1 l1.length c1] w fun e w' => e = .returned (.bool r) ∧ Drawn0 w w' := by
 have HR0 := AM hr0
 have HC0 := AM hc0
 clear hr0 hc0
 have HR1 := AM hr1
 have HC1 := AM hc1
 clear hr1 hc1
 have H : (if (l0.length : Int) = (l1.length : Int) then (laws_eqIntS.l0 k l0 l1 0) else (some false)) = some r := h
 clear h
 by_cases c3 : (l0.length : Int) = (l1.length : Int)
 ·rw [if_pos c3] at H
  have c3b0 : ((l0.length : Int) == (l1.length : Int)) = true := beq_iff_eq.mpr c3
  have c3b1 : ((l0.length : Int) != (l1.length : Int)) = false := bne_eq_false_iff_eq.mpr c3
  have c3b2 : (l0.length == l1.length) = true := by first | simpa using c3 | (simp at c3 ⊢; omega)
  clear c3
  have H' := AM H
  clear H
  go_enter Try.func31, Try.ntmps31
  go_wp2
  repeat (go_quiet (fail); try go_wp2)
  go_loopg [5] k (fun kq v5 w' => ∃ (x5_1 : Int), v5 = .int .i64 x5_1 ∧ Aside0 (laws_eqIntS.l0 kq l0 l1 x5_1 = some r) ∧ Aside0 (kq ≤ k) ∧ Drawn0 w w')
  case atStart => exact ⟨(0), sf, H', ⟨Nat.le_refl _⟩, by repeat (first | exact Drawn0.refl _ | apply Drawn0.step)⟩
  clear H'
  obtain ⟨x5_1, rfl, HA, HK1, ⟨m1, rfl⟩⟩ := hrel
  cases gk with
  | zero => exact absurd HA.out (by simp [laws_eqIntS.l0])
  | succ k1 =>
   have H := HA.out
   clear HA
   simp only [laws_eqIntS.l0] at H
   by_cases c4 : x5_1 < (l0.length : Int)
   ·rw [if_pos c4] at H
    have c4b0 : decide (x5_1 < (l0.length : Int)) = true := decide_eq_true c4
    clear c4
    by_cases c5 : 0 ≤ x5_1
    ·rw [if_pos c5] at H
     have c5b0 : decide (0 ≤ x5_1) = true := decide_eq_true c5
     clear c5
     by_cases c6 : x5_1 < (l1.length : Int)
     ·rw [if_pos c6] at H
      have c6b0 : decide (x5_1 < (l1.length : Int)) = true := decide_eq_true c6
      clear c6
      by_cases c7 : (rd l0 x5_1) = (rd l1 x5_1)
      ·rw [if_pos c7] at H
       have c7b0 : ((rd l0 x5_1) == (rd l1 x5_1)) = true := beq_iff_eq.mpr c7
       have c7b1 : ((rd l0 x5_1) != (rd l1 x5_1)) = false := bne_eq_false_iff_eq.mpr c7
       clear c7
       have H' := AM H
       clear H
       have p317 : 0 ≤ (x5_1 : Int) := od
       have q317 : x5_1 < (l0.length : Int) := od
       obtain ⟨ad317, e317, hx317_0⟩ := Kd.at_int HR0.out x5_1 p317 q317
       cases e317
       replace p317 := eq_true p317
       replace q317 := eq_true q317
       have p318 : 0 ≤ (x5_1 : Int) := od
       have q318 : x5_1 < (l1.length : Int) := od
       obtain ⟨ad318, e318, hx318_0⟩ := Kd.at_int HR1.out x5_1 p318 q318
       cases e318
       replace p318 := eq_true p318
       replace q318 := eq_true q318
       go_wp2
       repeat (go_quiet (fail); try go_wp2)
       go_roundg k1
       case measure => have := HK1.out; omega
       case rel => exact ⟨(wrap64 (x5_1 + 1)), sf, H', ⟨by have := HK1.out; omega⟩, by repeat (first | exact Drawn0.refl _ | apply Drawn0.step)⟩
      rw [if_neg c7] at H
      have c7b0 : ((rd l0 x5_1) == (rd l1 x5_1)) = false := beq_eq_false_iff_ne.mpr c7
      have c7b1 : ((rd l0 x5_1) != (rd l1 x5_1)) = true := bne_iff_ne.mpr c7
      obtain rfl := Option.some.inj H
      have p317 : 0 ≤ (x5_1 : Int) := od
      have q317 : x5_1 < (l0.length : Int) := od
      obtain ⟨ad317, e317, hx317_0⟩ := Kd.at_int HR0.out x5_1 p317 q317
      cases e317
      replace p317 := eq_true p317
      replace q317 := eq_true q317
      have p318 : 0 ≤ (x5_1 : Int) := od
      have q318 : x5_1 < (l1.length : Int) := od
      obtain ⟨ad318, e318, hx318_0⟩ := Kd.at_int HR1.out x5_1 p318 q318
      cases e318
      replace p318 := eq_true p318
      replace q318 := eq_true q318
      go_wp2
      repeat (go_quiet (fail); try go_wp2)
      go_ret
      exact ⟨by first | rfl | (simp; done) | (simp [*]; done), by repeat (first | exact Drawn0.refl _ | apply Drawn0.step)⟩
     rw [if_neg c6] at H
     exact absurd H (by simp)
    rw [if_neg c5] at H
    exact absurd H (by simp)
   rw [if_neg c4] at H
   have c4b0 : decide (x5_1 < (l0.length : Int)) = false := decide_eq_false c4
   clear c4
   obtain rfl := Option.some.inj H
   go_wp2
   repeat (go_quiet (fail); try go_wp2)
   go_ret
   exact ⟨by first | rfl | (simp; done) | (simp [*]; done), by repeat (first | exact Drawn0.refl _ | apply Drawn0.step)⟩
 rw [if_neg c3] at H
 have c3b0 : ((l0.length : Int) == (l1.length : Int)) = false := beq_eq_false_iff_ne.mpr c3
 have c3b1 : ((l0.length : Int) != (l1.length : Int)) = true := bne_iff_ne.mpr c3
 have c3b2 : (l0.length == l1.length) = false := by first | simpa using c3 | (simp at c3 ⊢; omega)
 obtain rfl := Option.some.inj H
 go_enter Try.func31, Try.ntmps31
 go_wp2
 repeat (go_quiet (fail); try go_wp2)
 go_ret
 exact ⟨by first | rfl | (simp; done) | (simp [*]; done), by repeat (first | exact Drawn0.refl _ | apply Drawn0.step)⟩

/-! ### laws_markIntS: function 32 -/
def laws_markIntS.l0 : Nat → List Int → Int → Int → Option (Int × List Int)
 | 0, _, _, _ => none
 | k + 1, x0, x1, x5 => if x5 < (x0.length : Int) then (if 0 ≤ x5 then (laws_markIntS.l0 k (x0.set (x5 : Int).toNat x1) (wrap64 (x1 + 1)) (wrap64 (x5 + 1))) else (none)) else (some (x1, x0))
def laws_markIntS.f (k : Nat) (l0 : List Int) (a1 : Int) : Option (Int × List Int) := laws_markIntS.l0 k l0 a1 0
theorem laws_markIntS.mono_l : ∀ k, (∀ y0 y1 y2, LeO (laws_markIntS.l0 k y0 y1 y2) (laws_markIntS.l0 (k + 1) y0 y1 y2))
 | 0 => fun _ _ _ r h => by simp [laws_markIntS.l0] at h
 | k + 1 => by
  have ih0 := laws_markIntS.mono_l k
  intro y0 y1 y2
  unfold laws_markIntS.l0
  repeat' first
  | (with_reducible exact LeO.refl _)
  | (with_reducible refine LeO.ite ?_ ?_)
  | (with_reducible refine LeO.bind ?_ (fun _ => ?_))
  | exact ih0 _ _ _
  | exact LeO.none _
  | refine LeO.ite ?_ ?_
  | refine LeO.bind ?_ (fun _ => ?_)
theorem laws_markIntS.mono : ∀ a0 a1 k, LeO (laws_markIntS.f k a0 a1) (laws_markIntS.f (k + 1) a0 a1) := by
 intro a0 a1 k
 have ih0 := laws_markIntS.mono_l k
 unfold laws_markIntS.f
 repeat' first
   | (with_reducible exact LeO.refl _)
   | (with_reducible refine LeO.ite ?_ ?_)
   | (with_reducible refine LeO.bind ?_ (fun _ => ?_))
   | exact ih0 _ _ _
   | exact LeO.none _
   | refine LeO.ite ?_ ?_
   | refine LeO.bind ?_ (fun _ => ?_)
set_option maxHeartbeats 8000000 in
set_option maxRecDepth 100000 in
theorem laws_markIntS.calls (k : Nat) (P0_ : Nat → Prop) (u9000_ : Value) (l0 : List Int) (a1 : Int) (r1 : Int) (r2 : List Int) (w0 w : World) (hB : Below w0.heap.size w0 w) (ho0 : Kd.R (Kd.int .i64) 3 w w0.heap.size P0_ u9000_ l0) (h : laws_markIntS.f k l0 a1 = some (r1, r2)) :
  Calls Try.prog 32 #[u9000_, .int .i64 a1] w fun e w' => e = .returned (.int .i64 r1) ∧ Kd.R (Kd.int .i64) 3 w' w0.heap.size (fun k_ => (P0_ k_ ∨ w.heap.size ≤ k_)) u9000_ r2 ∧ Below w0.heap.size w0 w' ∧ Kept w w' (fun k_ => P0_ k_) := by
 have HO0 := AM (show Kd.R (Kd.int .i64) 3 w w0.heap.size (fun k_ => (P0_ k_ ∨ w.heap.size ≤ k_)) u9000_ l0 from Kd.R_mono ho0 (fun k_ hk => (.inl hk)))
 have HK := AM (Kept.refl w (fun k_ => P0_ k_))
 have HW0 := AM hB.size
 have HB := AM hB
 clear hB
 have H : (laws_markIntS.l0 k l0 a1 0) = some (r1, r2) := h
 clear h
 have H' := AM H
 clear H
 go_enter Try.func32, Try.ntmps32
 go_wp2
 go_loopg [1, 5] k (fun kq v1 v5 w' => ∃ (x0_1 : List Int) (x1_1 : Int) (x5_1 : Int), v1 = .int .i64 x1_1 ∧ v5 = .int .i64 x5_1 ∧ Aside0 (laws_markIntS.l0 kq x0_1 x1_1 x5_1 = some (r1, r2)) ∧ Aside0 (kq ≤ k) ∧ Aside0 (Kd.R (Kd.int .i64) 3 w' w0.heap.size (fun k_ => (P0_ k_ ∨ w.heap.size ≤ k_)) u9000_ x0_1) ∧ Aside0 (Kept w w' (fun k_ => P0_ k_)) ∧ Aside0 (Below w0.heap.size w0 w'))
 case atStart => exact ⟨(l0), (a1), (0), sf, sf, H', ⟨Nat.le_refl _⟩, ⟨by exact HO0.out⟩, ⟨by repeat (first | (with_reducible first | exact HK.out | apply Kept.alloc | apply Kept.drewN | apply Kept.drew) | exact HK.out)⟩, ⟨hB HB⟩⟩
 clear H'
 obtain ⟨x0_1, x1_1, x5_1, rfl, rfl, HA, HK1, HO_0, HK, HB⟩ := hrel
 cases gk with
 | zero => exact absurd HA.out (by simp [laws_markIntS.l0])
 | succ k1 =>
  have H := HA.out
  clear HA
  simp only [laws_markIntS.l0] at H
  by_cases c3 : x5_1 < (x0_1.length : Int)
  ·rw [if_pos c3] at H
   have c3b0 : decide (x5_1 < (x0_1.length : Int)) = true := decide_eq_true c3
   clear c3
   by_cases c4 : 0 ≤ x5_1
   ·rw [if_pos c4] at H
    have c4b0 : decide (0 ≤ x5_1) = true := decide_eq_true c4
    clear c4
    obtain ⟨y319, hy319⟩ : ∃ y_ : List Int, y_ = (x0_1.set (x5_1 : Int).toNat x1_1) := ⟨_, rfl⟩
    replace H : (laws_markIntS.l0 k1 y319 (wrap64 (x1_1 + 1)) (wrap64 (x5_1 + 1))) = some (r1, r2) := by first | (rw [hy319]; with_reducible exact H) | (have H2_ := (Option.bind_some _ _).symm.trans H; rw [hy319]; with_reducible exact H2_) | (have H2_ := (Option.bind_some _ _).symm.trans H; with_reducible exact H2_) | with_reducible exact H | (rw [hy319]; exact H) | exact H
    have Ny319 := AM hy319
    clear hy319
    have H' := AM H
    clear H
    obtain ⟨Ao6, co6, eo6⟩ := Kd.R_slice HO_0.out
    subst eo6
    have p5 : 0 ≤ (x5_1 : Int) := od
    have q5 : (x5_1 : Int) < ((x0_1.length : Int) : Int) := od
    obtain ⟨go5, co5, eo5, gb5, gl5, cl5, HG5⟩ := Kd.R_form HO_0.out (by omega)
    (first | cases eo5 | (injection eo5 with ea_ en_ ec_; (first | subst ea_ | (injection ea_ with ea_; subst ea_)); subst ec_; clear en_))
    have GB5 := AM gb5
    have GG5 := AM HG5
    clear gb5 gl5 HG5
    have HMgo5 := AM (show (P0_ go5 ∨ w.heap.size ≤ go5) from (HO_0.out.1 _ rfl))
    obtain ⟨hx5_0, hf5_0⟩ := Kd.R_celln 0 HO_0.out (x5_1 : Int) p5 q5
    replace p5 := eq_true p5
    replace q5 := eq_true q5
    have HP7 := Kd.R_putg HO_0.out (x5_1 : Int) x1_1
    go_wp2_with (first | ((with_reducible refine gate_store (t := 3) (p := 15) rfl ?_); refine store_event (t := 3) (p := 15) (v := ?vo_w8) (w1 := (wr.setCell ⟨go5, (x5_1 : Int).toNat, none⟩ (.int .i64 x1_1))) ?hg ?ho ?hn ?hr ?_; (case ho => rfl); (case hg => rfl); (case hn => rfl); (case hr => first | (go_simp; done) | (go_simp; rfl)); intro w8 hw; have hg : wr.grownBy w8 (some go5) := (by rw [hw]; exact HP7.2); have hp_ : Kd.R (Kd.int .i64) 3 w8 w0.heap.size (fun k_ => (P0_ k_ ∨ w.heap.size ≤ k_)) (.slice (some ⟨go5, 0, none⟩) x0_1.length co6) y319 := (by rw [hw, Ny319.out]; exact HP7.1); clear HP7; replace HB := AM ((by rw [hw]; exact below_set (HB.out) GB5.out : Below w0.heap.size w0 w8)); replace HK := AM (Kept.of_grown (S := (fun k_ => P0_ k_)) hg (by repeat (first | (with_reducible first | exact HK.out | apply Kept.alloc | apply Kept.drewN | apply Kept.drew) | exact HK.out)) (fun k_ e_ => (HO_0.out.1 k_ e_))); replace HO_0 := AM (hp_); clear hg hw hp_))
    go_roundg k1
    case measure => have := HK1.out; omega
    case rel => exact ⟨(y319), (wrap64 (x1_1 + 1)), (wrap64 (x5_1 + 1)), sf, sf, H', ⟨by have := HK1.out; omega⟩, ⟨by exact HO_0.out⟩, ⟨by repeat (first | (with_reducible first | exact HK.out | apply Kept.alloc | apply Kept.drewN | apply Kept.drew) | exact HK.out)⟩, ⟨hB HB⟩⟩
   rw [if_neg c4] at H
   exact absurd H (by simp)
  rw [if_neg c3] at H
  have c3b0 : decide (x5_1 < (x0_1.length : Int)) = false := decide_eq_false c3
  clear c3
  simp only [Option.some.injEq, Prod.mk.injEq] at H
  obtain ⟨rfl, rfl⟩ := H
  obtain ⟨Ao9, co9, eo9⟩ := Kd.R_slice HO_0.out
  subst eo9
  go_wp2
  go_ret
  exact ⟨er, by exact HO_0.out, hB HB, by repeat (first | (with_reducible first | exact HK.out | apply Kept.alloc | apply Kept.drewN | apply Kept.drew) | exact HK.out)⟩

end Go.Proofs.Ytnkldnkolcighaa.XFnExactCutActs
