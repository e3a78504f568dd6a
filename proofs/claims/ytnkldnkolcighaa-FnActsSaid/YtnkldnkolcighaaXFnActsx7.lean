/- What the functions of a law compute, and that their calls compute it: written by a program of this session (xprint.py), which turns the kit print at a few places. -/
import Derived.Test.YtnkldnkolcighaaXFnActsx0
import Derived.Test.YtnkldnkolcighaaXFnActsx2
import Derived.Test.YtnkldnkolcighaaXFnActsx4
import Derived.Test.YtnkldnkolcighaaXFnActsx6
namespace Go.Proofs.Ytnkldnkolcighaa.XFnActs
open Go.RowKit Go.Proofs.YtnkldnkolcighaaQ.PrintWords Go.Proofs.YtnkldnkolcighaaQ.PrintLast Go.Proofs.YtnkldnkolcighaaQ.PrintMore
attribute [local go_sem] max2_int min2_int max_two min_two max_three min_three max_four min_four str_geq str_gtr   -- for this text's walks alone
set_option linter.unusedVariables false
set_option linter.unusedSimpArgs false

/-! ### spec_DoActs: function 23 -/
def spec_DoActs.l0 : Nat → List (S41) → Int → List (S67) → Option ((List (S67)) × Int)
 | 0, _, _, _ => none
 | k + 1, x1, x7, x170000 => if x7 < (x1.length : Int) then (if 0 ≤ x7 then ((spec_DoAct.f k x170000 ((rd_T41 x1 x7).f0) ((rd_T41 x1 x7).f1) ((rd_T41 x1 x7).f2) ((rd_T41 x1 x7).f3)).bind fun bt171 => (if bt171.2 = true then (spec_DoActs.l0 k x1 (wrap64 (x7 + 1)) bt171.1) else (some (x170000, x7)))) else (none)) else (some (x170000, (x1.length : Int)))
def spec_DoActs.f (k : Nat) (l0_0 : List (S67)) (l1 : List (S41)) : Option ((List (S67)) × Int) := (some (([] : List (S67)) : List (S67))).bind fun y163 => (if y163.length + l0_0.length < 3518437208883 then (spec_DoActs.l0 k l1 0 (y163 ++ l0_0)) else (none))
theorem spec_DoActs.mono_l : ∀ k, (∀ y0 y1 y2, LeO (spec_DoActs.l0 k y0 y1 y2) (spec_DoActs.l0 (k + 1) y0 y1 y2))
 | 0 => fun _ _ _ r h => by simp [spec_DoActs.l0] at h
 | k + 1 => by
  have ih0 := spec_DoActs.mono_l k
  intro y0 y1 y2
  unfold spec_DoActs.l0
  repeat' first
  | (with_reducible exact LeO.refl _)
  | (with_reducible refine LeO.ite ?_ ?_)
  | (with_reducible refine LeO.bind ?_ (fun _ => ?_))
  | exact ih0 _ _ _
  | exact spec_DoAct.mono _ _ _ _ _ _
  | exact LeO.none _
  | refine LeO.ite ?_ ?_
  | refine LeO.bind ?_ (fun _ => ?_)
theorem spec_DoActs.mono : ∀ a0 a1 k, LeO (spec_DoActs.f k a0 a1) (spec_DoActs.f (k + 1) a0 a1) := by
 intro a0 a1 k
 have ih0 := spec_DoActs.mono_l k
 unfold spec_DoActs.f
 repeat' first
   | (with_reducible exact LeO.refl _)
   | (with_reducible refine LeO.ite ?_ ?_)
   | (with_reducible refine LeO.bind ?_ (fun _ => ?_))
   | exact ih0 _ _ _
   | exact spec_DoAct.mono _ _ _ _ _ _
   | exact LeO.none _
   | refine LeO.ite ?_ ?_
   | refine LeO.bind ?_ (fun _ => ?_)
def spec_DoActs.T5 : Bool × List (List Nat × List Nat) := (true, [([], []), ([], []), ([], []), ([1, 2], [1, 2]), ([3], [3]), ([0, 4], [0, 4]), ([5], [5]), ([6], [6]), ([6], [6]), ([], []), ([9, 7, 5, 0, 1, 2, 3, 4, 5, 6, 7, 9], [7, 9]), ([8, 10, 0, 1, 2, 3, 4, 5, 6, 7, 8, 9, 10], [8])])
def spec_DoActs.B5 : List Nat := [0, 0, 0, 6, 14, 31, 63, 127, 127, 0, 767, 2047]
theorem spec_DoActs.tab5 : rtab .any (opsOf Try.f23 5) = spec_DoActs.T5 := by kernel_rfl
theorem spec_DoActs.bits5 : waitsOk spec_DoActs.T5.2 spec_DoActs.B5 = true := by kernel_rfl
set_option maxHeartbeats 8000000 in
set_option maxRecDepth 100000 in
theorem spec_DoActs.calls (k : Nat) (A0_0 : Option Addr) (c0_0 : Nat) (l0_0 : List (S67)) (A1 : Option Addr) (c1 : Nat) (l1 : List (S41)) (r1 : List (S67)) (r2 : Int) (w : World) (hr0_0 : Kd.C k67 w A0_0 l0_0.length l0_0) (hc0_0 : l0_0.length ≤ c0_0) (hr1 : Kd.C k41 w A1 l1.length l1) (hc1 : l1.length ≤ c1) (h : spec_DoActs.f k l0_0 l1 = some (r1, r2)) :
  Calls Try.prog 23 #[.agg #[.slice A0_0 l0_0.length c0_0], .slice A1 l1.length c1] w fun e w' => ∃ v0_ : Value, e = .returned (.tuple #[.agg #[v0_], .int .i64 r2]) ∧ Kd.R k67 67 w' w.heap.size (fun _ => True) v0_ r1 ∧ Below w.heap.size w w' := by
 have hu30 := Try.underlying30
 have hu41 := Try.underlying41
 have HR0_0 := AM hr0_0
 have HC0_0 := AM hc0_0
 clear hr0_0 hc0_0
 have HR1 := AM hr1
 have HC1 := AM hc1
 clear hr1 hc1
 have HB := AM (Below.refl w.heap.size w)
 have H : ((some (([] : List (S67)) : List (S67))).bind fun y163 => (if y163.length + l0_0.length < 3518437208883 then (spec_DoActs.l0 k l1 0 (y163 ++ l0_0)) else (none))) = some (r1, r2) := h
 clear h
 obtain ⟨y163, hy163⟩ : ∃ y_ : List (S67), y_ = (([] : List (S67))) := ⟨_, rfl⟩
 replace H : (if y163.length + l0_0.length < 3518437208883 then (spec_DoActs.l0 k l1 0 (y163 ++ l0_0)) else (none)) = some (r1, r2) := by first | (rw [hy163]; with_reducible exact H) | (have H2_ := (Option.bind_some _ _).symm.trans H; rw [hy163]; with_reducible exact H2_) | (have H2_ := (Option.bind_some _ _).symm.trans H; with_reducible exact H2_) | with_reducible exact H | (rw [hy163]; exact H) | exact H
 have Ny163 := AM hy163
 clear hy163
 by_cases c3 : y163.length + l0_0.length < 3518437208883
 ·rw [if_pos c3] at H
  have LMc3 := AM c3
  clear c3
  obtain ⟨y166, hy166⟩ : ∃ y_ : List (S67), y_ = (y163 ++ l0_0) := ⟨_, rfl⟩
  replace H : (spec_DoActs.l0 k l1 0 y166) = some (r1, r2) := by first | (rw [hy166]; with_reducible exact H) | (have H2_ := (Option.bind_some _ _).symm.trans H; rw [hy166]; with_reducible exact H2_) | (have H2_ := (Option.bind_some _ _).symm.trans H; with_reducible exact H2_) | with_reducible exact H | (rw [hy166]; exact H) | exact H
  have Ny166 := AM hy166
  clear hy166
  have H' := AM H
  clear H
  go_enter Try.func23, Try.ntmps23
  go_wp2_with (first | ((with_reducible refine gd 2 rfl ?_); refine bx (N := 2) (cs := #[.slice A0_0 l0_0.length c0_0]) (t := 30) ?_; intro gb161 hg w4 hbox hb; have BK161 := AM (hbox); have GW161 := AM (bs hg HB); have GE161 := AM (bs hg HB); replace HB := bq HB hb; clear hb hbox hg) | ((with_reducible refine gd 4 rfl ?_); refine bx (N := 4) (cs := #[.slice none 0 0]) (t := 30) ?_; intro gb162 hg w5 hbox hb; have BK162 := AM (hbox); have GW162 := AM (bt hg hS); have GE162 := AM (bt hg hS); replace HB := AM (below_step (hS) hb); have NB161_162 := AM (nl hg (bk BK161)); have NB162_161 := AM (ng hg (bk BK161)); replace BK161 := bw BK161 hb; clear hb hbox hg) | ((with_reducible refine gd 10 rfl ?_); refine Kd.R_lit k67 _ 67 ?hg (N := 10) ?hd (xs := ([] : List (S67))) (inner := []) (ok := fun _ => True) (okp := fun _ => True) ?hr ?hp (fun _ hk => hk) trivial (Below.refl _ _) (Nat.le_refl _) (by simp) ?_; (case hd => rfl); (case hg => rfl); (case hr => first | (go_simp; done) | (go_simp; rfl)); (case hp => exact (Reps.none _ _)); intro v164 w6 ho7 hb hg_ hnew_; clear hg_ hnew_; (first | rw [← Ny163.out] at ho7 | (simp only [Int.reduceToNat] at ho7; rw [← Ny163.out] at ho7)); have HO165 := AM (Kd.R_lower ho7 (below_size (hS))); replace BK161 := bw BK161 hb; replace BK162 := bw BK162 hb; replace HB := AM (below_step (hS) hb); clear hb ho7; have hnb8 := NB161_162.out; have hnc8 := NB162_161.out; have hcz9_0 := bv BK161 0 (.slice A0_0 l0_0.length c0_0); have hfz9_0 := bz BK161 0) | ((with_reducible refine gate_builtin (b := .append) (xs := #[.tmp 10, .tmp 12]) rfl ?_); at_builtin; refine Kd.R_append_rows k67 (w0 := w) w.heap.size rfl (.tmp 10) (.tmp 12) 28 67 (.agg #[(.string ⟨#[]⟩), (.string ⟨#[]⟩), (.int .i64 0)]) 40 rfl Try.underlying28 info67 rfl (by decide) (by omega) v164 y163 l0_0 _ _ _ (fun _ => True) (fun _ => False) rfl rfl ?aO ?aR (fun _ _ h => h) (fun _ h => h.elim) ?aF ?aB ?aS ?aL ?_; (case aR => repeat (first | exact (Kd.C_below HR0_0.out HB.out) | (with_reducible first | refine cA ?_ _ | refine cN ?_ _ | refine cD ?_))); (case aB => exact (hS)); (case aF => exact (fun _ _ => trivial)); (case aO => exact (by exact HO165.out)); (case aS => exact (below_size (hS))); (case aL => have := LMc3.out; omega); intro v167 w10 ho hb hg hat; rw [← Ny166.out] at ho; replace BK161 := AM (blk_grown (g := gb161) (o := .cells #[.slice A0_0 l0_0.length c0_0] 30 (0, 0)) (bk BK161) hg (Kd.R_ne HO165.out BK161.out (by decide))); replace BK162 := AM (blk_grown (g := gb162) (o := .cells #[.slice none 0 0] 30 (0, 0)) (bk BK162) hg (Kd.R_ne HO165.out BK162.out (by decide))); replace HB := AM (hb); have HO168 := AM (ho); clear HO165; clear ho hb hg hat; obtain ⟨Ao11, co11, eo11⟩ := Kd.R_slice HO168.out; subst eo11) | ((with_reducible refine gd 6 rfl ?_); refine bx (N := 6) (cs := #[.slice none 0 0]) (t := 30) ?_; intro gb169 hg w12 hbox hb; replace HO168 := AM (Kd.R_below (by exact HO168.out) hb); have BK169 := AM (hbox); have GW169 := AM (bt hg hS); have GE169 := AM (bt hg hS); replace HB := AM (below_step (hS) hb); have NB161_169 := AM (nl hg (bk BK161)); have NB169_161 := AM (ng hg (bk BK161)); replace BK161 := bw BK161 hb; have NB162_169 := AM (nl hg (bk BK162)); have NB169_162 := AM (ng hg (bk BK162)); replace BK162 := bw BK162 hb; clear hb hbox hg; have hnb13 := NB169_161.out; have hnc13 := NB161_169.out; have hnb14 := NB169_162.out; have hnc14 := NB162_169.out; have hcz15_0 := bv BK169 0 (.slice none 0 0); have hfz15_0 := bz BK169 0))
  go_loopg [7] k (fun kq v7 w' => ∃ (x7_1 : Int) (x170000_1 : List (S67)) (u170000 : Value), v7 = .int .i64 x7_1 ∧ Aside0 (spec_DoActs.l0 kq l1 x7_1 x170000_1 = some (r1, r2)) ∧ Aside0 (kq ≤ k) ∧ Aside0 (Kd.R k67 67 w' w.heap.size (fun _ => True) u170000 x170000_1) ∧ Aside0 (w'.heap[gb161]? = some (.cells #[(.slice A0_0 l0_0.length c0_0)] 30 (0, 0))) ∧ Aside0 (w'.heap[gb162]? = some (.cells #[(.slice none 0 0)] 30 (0, 0))) ∧ Aside0 (w'.heap[gb169]? = some (.cells #[u170000] 30 (0, 0))) ∧ Aside0 (Below w.heap.size w w'))
  case atStart => exact ⟨(0), (y166), (.slice Ao11 y166.length co11), sf, H', ⟨Nat.le_refl _⟩, ⟨by exact Kd.R_mono (Kd.R_far (p := ⟨gb169, 0, none⟩) (Kd.R_types HO168.out BK169.out (by decide)) (fun _ hk => hk.2) (.slice Ao11 y166.length co11)) (fun _ hk => trivial)⟩, ⟨be⟩, ⟨be⟩, ⟨bp #[.slice none 0 0] 0⟩, ⟨hS⟩⟩
  clear H'
  obtain ⟨x7_1, x170000_1, u170000, rfl, HA, HK1, HO_170000, BK161, BK162, BK169, HB⟩ := hrel
  cases gk with
  | zero => exact absurd HA.out (by simp [spec_DoActs.l0])
  | succ k1 =>
   have H := HA.out
   clear HA
   simp only [spec_DoActs.l0] at H
   by_cases c16 : x7_1 < (l1.length : Int)
   ·rw [if_pos c16] at H
    have c16b0 : decide (x7_1 < (l1.length : Int)) = true := decide_eq_true c16
    clear c16
    by_cases c17 : 0 ≤ x7_1
    ·rw [if_pos c17] at H
     have c17b0 : decide (0 ≤ x7_1) = true := decide_eq_true c17
     clear c17
     replace H := bm H
     obtain ⟨⟨t171, t174⟩, A180, H⟩ := H
     replace H : (if t174 = true then (spec_DoActs.l0 k1 l1 (wrap64 (x7_1 + 1)) t171) else (some (x170000_1, x7_1))) = some (r1, r2) := H
     have A18 := AM A180
     clear A180
     by_cases c19 : t174 = true
     ·subst c19
      have H1 : (spec_DoActs.l0 k1 l1 (wrap64 (x7_1 + 1)) t171) = some (r1, r2) := by rw [if_pos rfl] at H; exact H
      clear H
      have H := H1
      clear H1
      have H' := AM H
      clear H
      obtain ⟨Ao20, co20, eo20⟩ := Kd.R_slice HO_170000.out
      subst eo20
      try go_wp2
      replace HO_170000 := AM (Kd.R_drew HO_170000.out)
      replace BK161 := AM (blk_drew BK161.out)
      replace BK162 := AM (blk_drew BK162.out)
      replace BK169 := AM (blk_drew BK169.out)
      replace HB := AM (below_drew1 HB.out)
      have p170 : 0 ≤ (x7_1 : Int) := od
      have q170 : x7_1 < (l1.length : Int) := od
      obtain ⟨ad170, e170, hx170_0, hx170_1, hx170_2, hx170_3⟩ := at_T41 HR1.out x7_1 p170 q170
      have hw170_3 := hx170_3
      have hw170_2 := hx170_2
      have hw170_1 := hx170_1
      have hw170_0 := hx170_0
      cases e170
      replace hx170_0 := cl HB hx170_0
      replace hx170_1 := cl HB hx170_1
      replace hx170_2 := cl HB hx170_2
      replace hx170_3 := cl HB hx170_3
      replace p170 := eq_true p170
      replace q170 := eq_true q170
      refine sr 12 (fun w' => w'.cell? ⟨gb169, 0, none⟩ = some (.slice Ao20 x170000_1.length co20) ∧ w'.cell? (ad170.add ((x7_1).toNat * 4)) = some (.int .i64 ((rd_T41 l1 x7_1).f0)) ∧ w'.cell? ⟨(ad170.add ((x7_1).toNat * 4)).block, (ad170.add ((x7_1).toNat * 4)).off + 1, none⟩ = some (.string ((rd_T41 l1 x7_1).f1)) ∧ w'.cell? ⟨(ad170.add ((x7_1).toNat * 4)).block, (ad170.add ((x7_1).toNat * 4)).off + 2, none⟩ = some (.string ((rd_T41 l1 x7_1).f2)) ∧ w'.cell? ⟨(ad170.add ((x7_1).toNat * 4)).block, (ad170.add ((x7_1).toNat * 4)).off + 3, none⟩ = some (.string ((rd_T41 l1 x7_1).f3))) [] ⟨bc BK169 0, (cl HB hw170_0), (cl HB hw170_1), (cl HB hw170_2), (cl HB hw170_3)⟩ (fun hHeld => ?_); refine with_tabW spec_DoActs.tab5 spec_DoActs.bits5 (fun HT_ HW_ => ?_)
      generalize wr.drew = w21 at HO_170000 BK161 BK162 BK169 HB hx170_0 hx170_1 hx170_2 hx170_3 hHeld ⊢
      refine pt 1 23 ?_; refine pt 2 24 ?_; refine pt 3 25 ?_; refine tt 0 22 ?_; refine tt 4 26 ?_
      refine join_ (σ := Value × Nat) 2 #[true, true, true, true, true, true, true, true, true, true, false, false] (fun s_ => [(27, .tuple #[.agg #[s_.1], .bool true]), (8, .pointer (some ⟨s_.2, 0, none⟩)), (21, .tuple #[.agg #[s_.1], .bool true]), (28, .agg #[s_.1]), (29, .bool true)]) (fun s_ w' => (w'.cell? ⟨gb169, 0, none⟩ = some (.slice Ao20 x170000_1.length co20) ∧ w'.cell? (ad170.add ((x7_1).toNat * 4)) = some (.int .i64 ((rd_T41 l1 x7_1).f0)) ∧ w'.cell? ⟨(ad170.add ((x7_1).toNat * 4)).block, (ad170.add ((x7_1).toNat * 4)).off + 1, none⟩ = some (.string ((rd_T41 l1 x7_1).f1)) ∧ w'.cell? ⟨(ad170.add ((x7_1).toNat * 4)).block, (ad170.add ((x7_1).toNat * 4)).off + 2, none⟩ = some (.string ((rd_T41 l1 x7_1).f2)) ∧ w'.cell? ⟨(ad170.add ((x7_1).toNat * 4)).block, (ad170.add ((x7_1).toNat * 4)).off + 3, none⟩ = some (.string ((rd_T41 l1 x7_1).f3))) ∧ (Kd.R k67 67 w' w.heap.size (fun k_ => some k_ ≠ (.slice Ao20 x170000_1.length co20 : Value).ownBlock) s_.1 t171) ∧ (Kd.R k67 67 w' w.heap.size (fun k_ => some k_ ≠ (s_.1 : Value).ownBlock) (.slice Ao20 x170000_1.length co20) x170000_1) ∧ (w'.heap[gb161]? = some (.cells #[.slice A0_0 l0_0.length c0_0] 30 (0, 0))) ∧ (w'.heap[gb162]? = some (.cells #[.slice none 0 0] 30 (0, 0))) ∧ (w'.heap[gb169]? = some (.cells #[.slice Ao20 x170000_1.length co20] 30 (0, 0))) ∧ (w'.heap[s_.2]? = some (.cells #[.slice none 0 0] 30 (0, 0))) ∧ (w.heap.size ≤ s_.2) ∧ (w.heap.size ≤ s_.2) ∧ (gb161 ≠ s_.2) ∧ (s_.2 ≠ gb161) ∧ (gb162 ≠ s_.2) ∧ (s_.2 ≠ gb162) ∧ (gb169 ≠ s_.2) ∧ (s_.2 ≠ gb169) ∧ (Below w.heap.size w w')) ?_ ?_
      rotate_left
      ·intro hCont
       refine two_ (i := 5) (j := 9) (Ni := some 27) (Nj := some 8) #[true, true, true, true, true, true, false, false, false, false, false, false] #[true, true, true, true, true, false, false, false, false, true, false, false] rfl rfl rfl rfl (two_of HT_.out (by kernel_rfl)) (by decide) (by decide) (fun K hK => ?_) (fun K hK => ?_)
       ·skip
        refine goes_ Try.func17 (by kernel_rfl) rfl #[.agg #[.slice Ao20 x170000_1.length co20], .agg #[.int .i64 ((rd_T41 l1 x7_1).f0), .string ((rd_T41 l1 x7_1).f1), .string ((rd_T41 l1 x7_1).f2), .string ((rd_T41 l1 x7_1).f3)]] (by rfl) rfl rfl am ?_
        with_reducible refine (spec_DoAct.calls k1 _ _ x170000_1 ((rd_T41 l1 x7_1).f0) ((rd_T41 l1 x7_1).f1) ((rd_T41 l1 x7_1).f2) ((rd_T41 l1 x7_1).f3) t171 true _ ?side1 ?side2 A18.out).mono ?_
        (case side1 => repeat (first | exact (Kd.R_reads' HO_170000.out).2.2 | (with_reducible first | refine cA ?_ _ | refine cN ?_ _ | refine cD ?_)))
        (case side2 => exact (Kd.R_reads' HO_170000.out).2.1)
        rintro e w22 ⟨v172, rfl, ho0, hb⟩
        refine ⟨_, rfl, ?_⟩
        have HO173 := AM (Kd.R_lower (Kd.R_new' ho0 (Kd.R_lt (by exact HO_170000.out))) (below_size (hS)))
        replace HO_170000 := AM (Kd.R_elder' (by exact HO_170000.out) (Kd.R_base ho0) hb)
        replace BK161 := bw BK161 hb
        replace BK162 := bw BK162 hb
        replace BK169 := bw BK169 hb
        replace HB := AM (below_step (hS) hb)
        (try clear hb)
        (try clear hb2)
        (try clear hk)
        (try clear hi)
        (try clear ho0)
        refine hK.out _ _ ⟨bc BK169 0, (cl HB hw170_0), (cl HB hw170_1), (cl HB hw170_2), (cl HB hw170_3)⟩ (fun hHeld => ?_)
        clear hK K
        refine nr ?_
        refine pt 6 21 ?_; refine pt 7 28 ?_; refine pt 8 29 ?_
        refine ot 9 (some 8) fun K hK => ?_
        refine box_step ?hg (N := 8) ?hd (cs := #[.slice none 0 0]) (t := 30) ?hr ?_; (case hd => rfl); (case hg => rfl); (case hr => first | (go_simp; done) | (go_simp; rfl))
        intro gb175 hg w23 hbox hb
        replace HO_170000 := AM (Kd.R_below (by exact HO_170000.out) hb)
        replace HO173 := AM (Kd.R_below (by exact HO173.out) hb)
        have BK175 := AM (hbox)
        have GW175 := AM (bt hg hS)
        have GE175 := AM (bt hg hS)
        replace HB := AM (below_step (hS) hb)
        have NB161_175 := AM (nl hg (bk BK161))
        have NB175_161 := AM (ng hg (bk BK161))
        replace BK161 := bw BK161 hb
        have NB162_175 := AM (nl hg (bk BK162))
        have NB175_162 := AM (ng hg (bk BK162))
        replace BK162 := bw BK162 hb
        have NB169_175 := AM (nl hg (bk BK169))
        have NB175_169 := AM (ng hg (bk BK169))
        replace BK169 := bw BK169 hb
        clear hb hbox hg
        refine hK.out _ _ ⟨bc BK169 0, (cl HB hw170_0), (cl HB hw170_1), (cl HB hw170_2), (cl HB hw170_3)⟩ (fun hHeld => ?_)
        clear hK K
        refine nr ?_
        exact norm_ (by simp only [putAll, Act.put, qT, q0, qS]) (hCont (v172, gb175) _ ⟨hHeld, (by exact Kd.R_mono HO173.out (fun _ hk => hk.2)), (by exact Kd.R_mono HO_170000.out (fun _ hk => hk.2)), (bk BK161), (bk BK162), (bk BK169), (bk BK175), GW175.out, GE175.out, NB161_175.out, NB175_161.out, NB162_175.out, NB175_162.out, NB169_175.out, NB175_169.out, (hS)⟩)
       skip
       refine box_step ?hg (N := 8) ?hd (cs := #[.slice none 0 0]) (t := 30) ?hr ?_; (case hd => rfl); (case hg => rfl); (case hr => first | (go_simp; done) | (go_simp; rfl))
       intro gb175 hg w22 hbox hb
       replace HO_170000 := AM (Kd.R_below (by exact HO_170000.out) hb)
       have BK175 := AM (hbox)
       have GW175 := AM (bt hg hS)
       have GE175 := AM (bt hg hS)
       replace HB := AM (below_step (hS) hb)
       have NB161_175 := AM (nl hg (bk BK161))
       have NB175_161 := AM (ng hg (bk BK161))
       replace BK161 := bw BK161 hb
       have NB162_175 := AM (nl hg (bk BK162))
       have NB175_162 := AM (ng hg (bk BK162))
       replace BK162 := bw BK162 hb
       have NB169_175 := AM (nl hg (bk BK169))
       have NB175_169 := AM (ng hg (bk BK169))
       replace BK169 := bw BK169 hb
       clear hb hbox hg
       refine hK.out _ _ ⟨bc BK169 0, (cl HB hw170_0), (cl HB hw170_1), (cl HB hw170_2), (cl HB hw170_3)⟩ (fun hHeld => ?_)
       clear hK K
       refine nr ?_
       refine ot 5 (some 27) fun K hK => ?_
       refine goes_ Try.func17 (by kernel_rfl) rfl #[.agg #[.slice Ao20 x170000_1.length co20], .agg #[.int .i64 ((rd_T41 l1 x7_1).f0), .string ((rd_T41 l1 x7_1).f1), .string ((rd_T41 l1 x7_1).f2), .string ((rd_T41 l1 x7_1).f3)]] (by rfl) rfl rfl am ?_
       with_reducible refine (spec_DoAct.calls k1 _ _ x170000_1 ((rd_T41 l1 x7_1).f0) ((rd_T41 l1 x7_1).f1) ((rd_T41 l1 x7_1).f2) ((rd_T41 l1 x7_1).f3) t171 true _ ?side1 ?side2 A18.out).mono ?_
       (case side1 => repeat (first | exact (Kd.R_reads' HO_170000.out).2.2 | (with_reducible first | refine cA ?_ _ | refine cN ?_ _ | refine cD ?_)))
       (case side2 => exact (Kd.R_reads' HO_170000.out).2.1)
       rintro e w23 ⟨v172, rfl, ho0, hb⟩
       refine ⟨_, rfl, ?_⟩
       have HO173 := AM (Kd.R_lower (Kd.R_new' ho0 (Kd.R_lt (by exact HO_170000.out))) (below_size (hS)))
       replace HO_170000 := AM (Kd.R_elder' (by exact HO_170000.out) (Kd.R_base ho0) hb)
       replace BK161 := bw BK161 hb
       replace BK162 := bw BK162 hb
       replace BK169 := bw BK169 hb
       replace BK175 := bw BK175 hb
       replace HB := AM (below_step (hS) hb)
       (try clear hb)
       (try clear hb2)
       (try clear hk)
       (try clear hi)
       (try clear ho0)
       refine hK.out _ _ ⟨bc BK169 0, (cl HB hw170_0), (cl HB hw170_1), (cl HB hw170_2), (cl HB hw170_3)⟩ (fun hHeld => ?_)
       clear hK K
       refine nr ?_
       refine pt 6 21 ?_; refine pt 7 28 ?_; refine pt 8 29 ?_
       exact norm_ (by simp only [putAll, Act.put, qT, q0, qS]) (hCont (v172, gb175) _ ⟨hHeld, (by exact Kd.R_mono HO173.out (fun _ hk => hk.2)), (by exact Kd.R_mono HO_170000.out (fun _ hk => hk.2)), (bk BK161), (bk BK162), (bk BK169), (bk BK175), GW175.out, GE175.out, NB161_175.out, NB175_161.out, NB162_175.out, NB175_162.out, NB169_175.out, NB175_169.out, (hS)⟩)
      rintro ⟨v172, gb175⟩ w24 ⟨hS_, h0_, h1_, h2_, h3_, h4_, h5_, h6_, h7_, h8_, h9_, h10_, h11_, h12_, h13_, h14_⟩
      have n0_ : Aside0 (Kd.R k67 67 w24 w.heap.size (fun k_ => some k_ ≠ (.slice Ao20 x170000_1.length co20 : Value).ownBlock) v172 t171) := ⟨h0_⟩
      have n1_ : Aside0 (Kd.R k67 67 w24 w.heap.size (fun k_ => some k_ ≠ (v172 : Value).ownBlock) (.slice Ao20 x170000_1.length co20) x170000_1) := ⟨h1_⟩
      have n2_ : Aside0 (w24.heap[gb161]? = some (.cells #[.slice A0_0 l0_0.length c0_0] 30 (0, 0))) := ⟨h2_⟩
      have n3_ : Aside0 (w24.heap[gb162]? = some (.cells #[.slice none 0 0] 30 (0, 0))) := ⟨h3_⟩
      have n4_ : Aside0 (w24.heap[gb169]? = some (.cells #[.slice Ao20 x170000_1.length co20] 30 (0, 0))) := ⟨h4_⟩
      have n5_ : Aside0 (w24.heap[gb175]? = some (.cells #[.slice none 0 0] 30 (0, 0))) := ⟨h5_⟩
      have n6_ : Aside0 (w.heap.size ≤ gb175) := ⟨h6_⟩
      have n7_ : Aside0 (w.heap.size ≤ gb175) := ⟨h7_⟩
      have n8_ : Aside0 (gb161 ≠ gb175) := ⟨h8_⟩
      have n9_ : Aside0 (gb175 ≠ gb161) := ⟨h9_⟩
      have n10_ : Aside0 (gb162 ≠ gb175) := ⟨h10_⟩
      have n11_ : Aside0 (gb175 ≠ gb162) := ⟨h11_⟩
      have n12_ : Aside0 (gb169 ≠ gb175) := ⟨h12_⟩
      have n13_ : Aside0 (gb175 ≠ gb169) := ⟨h13_⟩
      have n14_ : Aside0 (Below w.heap.size w w24) := ⟨h14_⟩
      clear HO_170000
      clear BK161
      clear BK162
      clear BK169
      clear HB
      clear h0_ h1_ h2_ h3_ h4_ h5_ h6_ h7_ h8_ h9_ h10_ h11_ h12_ h13_ h14_
      have HO173 := n0_
      have HO_170000 := n1_
      have BK161 := n2_
      have BK162 := n3_
      have BK169 := n4_
      have BK175 := n5_
      have GW175 := n6_
      have GE175 := n7_
      have NB161_175 := n8_
      have NB175_161 := n9_
      have NB162_175 := n10_
      have NB175_162 := n11_
      have NB169_175 := n12_
      have NB175_169 := n13_
      have HB := n14_
      clear n0_ n1_ n2_ n3_ n4_ n5_ n6_ n7_ n8_ n9_ n10_ n11_ n12_ n13_ n14_
      have hHeld : w24.cell? ⟨gb169, 0, none⟩ = some (.slice Ao20 x170000_1.length co20) ∧ w24.cell? (ad170.add ((x7_1).toNat * 4)) = some (.int .i64 ((rd_T41 l1 x7_1).f0)) ∧ w24.cell? ⟨(ad170.add ((x7_1).toNat * 4)).block, (ad170.add ((x7_1).toNat * 4)).off + 1, none⟩ = some (.string ((rd_T41 l1 x7_1).f1)) ∧ w24.cell? ⟨(ad170.add ((x7_1).toNat * 4)).block, (ad170.add ((x7_1).toNat * 4)).off + 2, none⟩ = some (.string ((rd_T41 l1 x7_1).f2)) ∧ w24.cell? ⟨(ad170.add ((x7_1).toNat * 4)).block, (ad170.add ((x7_1).toNat * 4)).off + 3, none⟩ = some (.string ((rd_T41 l1 x7_1).f3)) := hS_
      obtain ⟨Ao25, co25, eo25⟩ := Kd.R_slice HO173.out
      (first | subst eo25 | (injection eo25 with f1_ f2_ f3_; have f4_ := f1_.symm; have f5_ := f3_.symm; clear f1_ f2_ f3_; subst f4_; subst f5_))
      refine norm_ (a' := ?_) ?_ ?_
      rotate_left
      ·simp only [putAll, Act.put, qT, q0, qS]
       rfl
      refine ot 10 none fun K hK => ?_
      have hs26 : w24.cell? ⟨gb175, 0, none⟩ = some (.slice none 0 0) := bc BK175 0
      have hfs26 := bz BK175 0
      have hns26_0 := NB161_175.out
      have hns26_1 := NB162_175.out
      have hns26_2 := NB169_175.out
      have hms26_0 := NB175_161.out
      have hms26_1 := NB175_162.out
      have hms26_2 := NB175_169.out
      refine sk ?_
      refine hK.out _ _ ⟨((cell_far (p := ⟨gb175, _, none⟩) NB169_175.out _).trans (hHeld.1)), ((cell_far (p := ⟨gb175, _, none⟩) (by first | exact Nat.ne_of_lt (Nat.lt_of_lt_of_le (by have := World.block_lt_of_cell? _ _ hw170_0; first | rwa [add_block] at this | exact this) GW175.out) | (rw [add_block]; exact Nat.ne_of_lt (Nat.lt_of_lt_of_le (by have := World.block_lt_of_cell? _ _ hw170_0; first | rwa [add_block] at this | exact this) GW175.out)) | (show (Addr.add _ _).block ≠ _; rw [add_block]; exact Nat.ne_of_lt (Nat.lt_of_lt_of_le (by have := World.block_lt_of_cell? _ _ hw170_0; first | rwa [add_block] at this | exact this) GW175.out)) | (dsimp only; exact Nat.ne_of_lt (Nat.lt_of_lt_of_le (by have := World.block_lt_of_cell? _ _ hw170_0; first | rwa [add_block] at this | exact this) GW175.out))) _).trans (hHeld.2.1)), ((cell_far (p := ⟨gb175, _, none⟩) (by first | exact Nat.ne_of_lt (Nat.lt_of_lt_of_le (by have := World.block_lt_of_cell? _ _ hw170_1; first | rwa [add_block] at this | exact this) GW175.out) | (rw [add_block]; exact Nat.ne_of_lt (Nat.lt_of_lt_of_le (by have := World.block_lt_of_cell? _ _ hw170_1; first | rwa [add_block] at this | exact this) GW175.out)) | (show (Addr.add _ _).block ≠ _; rw [add_block]; exact Nat.ne_of_lt (Nat.lt_of_lt_of_le (by have := World.block_lt_of_cell? _ _ hw170_1; first | rwa [add_block] at this | exact this) GW175.out)) | (dsimp only; exact Nat.ne_of_lt (Nat.lt_of_lt_of_le (by have := World.block_lt_of_cell? _ _ hw170_1; first | rwa [add_block] at this | exact this) GW175.out))) _).trans (hHeld.2.2.1)), ((cell_far (p := ⟨gb175, _, none⟩) (by first | exact Nat.ne_of_lt (Nat.lt_of_lt_of_le (by have := World.block_lt_of_cell? _ _ hw170_2; first | rwa [add_block] at this | exact this) GW175.out) | (rw [add_block]; exact Nat.ne_of_lt (Nat.lt_of_lt_of_le (by have := World.block_lt_of_cell? _ _ hw170_2; first | rwa [add_block] at this | exact this) GW175.out)) | (show (Addr.add _ _).block ≠ _; rw [add_block]; exact Nat.ne_of_lt (Nat.lt_of_lt_of_le (by have := World.block_lt_of_cell? _ _ hw170_2; first | rwa [add_block] at this | exact this) GW175.out)) | (dsimp only; exact Nat.ne_of_lt (Nat.lt_of_lt_of_le (by have := World.block_lt_of_cell? _ _ hw170_2; first | rwa [add_block] at this | exact this) GW175.out))) _).trans (hHeld.2.2.2.1)), ((cell_far (p := ⟨gb175, _, none⟩) (by first | exact Nat.ne_of_lt (Nat.lt_of_lt_of_le (by have := World.block_lt_of_cell? _ _ hw170_3; first | rwa [add_block] at this | exact this) GW175.out) | (rw [add_block]; exact Nat.ne_of_lt (Nat.lt_of_lt_of_le (by have := World.block_lt_of_cell? _ _ hw170_3; first | rwa [add_block] at this | exact this) GW175.out)) | (show (Addr.add _ _).block ≠ _; rw [add_block]; exact Nat.ne_of_lt (Nat.lt_of_lt_of_le (by have := World.block_lt_of_cell? _ _ hw170_3; first | rwa [add_block] at this | exact this) GW175.out)) | (dsimp only; exact Nat.ne_of_lt (Nat.lt_of_lt_of_le (by have := World.block_lt_of_cell? _ _ hw170_3; first | rwa [add_block] at this | exact this) GW175.out))) _).trans (hHeld.2.2.2.2))⟩ (fun hHeld => ?_)
      clear hK K
      refine pt 11 9 ?_
      refine dn ?_
      have hnb27 := NB175_161.out
      have hnc27 := NB161_175.out
      have hnb28 := NB175_162.out
      have hnc28 := NB162_175.out
      have hnb29 := NB175_169.out
      have hnc29 := NB169_175.out
      have hcz30_0 := bv BK175 0 (.slice none 0 0)
      have hfz30_0 := bz BK175 0
      have hnb31 := NB169_161.out
      have hnc31 := NB161_169.out
      have hnb32 := NB169_162.out
      have hnc32 := NB162_169.out
      have hcz33_0 := bv BK169 0 (.slice Ao20 x170000_1.length co20)
      have hfz33_0 := bz BK169 0
      try go_wp2
      go_roundg k1
      case measure => have := HK1.out; omega
      case rel => exact ⟨(wrap64 (x7_1 + 1)), (t171), (.slice Ao25 t171.length co25), sf, H', ⟨by have := HK1.out; omega⟩, ⟨by exact Kd.R_mono (Kd.R_far (p := ⟨gb169, 0, none⟩) (Kd.R_far (p := ⟨gb175, 0, none⟩) (Kd.R_types (Kd.R_types HO173.out BK175.out (by decide)) BK169.out (by decide)) (fun _ hk => hk.1.2) (.slice Ao25 t171.length co25)) (fun _ hk => hk.2) (.slice Ao25 t171.length co25)) (fun _ hk => trivial)⟩, ⟨be⟩, ⟨be⟩, ⟨bp #[.slice Ao20 x170000_1.length co20] 0⟩, ⟨hS⟩⟩
     replace c19 := Bool.eq_false_iff.mpr c19
     subst c19
     have H1 : (some (x170000_1, x7_1)) = some (r1, r2) := by rw [if_neg (show ¬ (false = true) by decide)] at H; exact H
     clear H
     have H := H1
     clear H1
     simp only [Option.some.injEq, Prod.mk.injEq] at H
     obtain ⟨rfl, rfl⟩ := H
     obtain ⟨Ao34, co34, eo34⟩ := Kd.R_slice HO_170000.out
     subst eo34
     try go_wp2
     replace HO_170000 := AM (Kd.R_drew HO_170000.out)
     replace BK161 := AM (blk_drew BK161.out)
     replace BK162 := AM (blk_drew BK162.out)
     replace BK169 := AM (blk_drew BK169.out)
     replace HB := AM (below_drew1 HB.out)
     have p170 : 0 ≤ (x7_1 : Int) := od
     have q170 : x7_1 < (l1.length : Int) := od
     obtain ⟨ad170, e170, hx170_0, hx170_1, hx170_2, hx170_3⟩ := at_T41 HR1.out x7_1 p170 q170
     have hw170_3 := hx170_3
     have hw170_2 := hx170_2
     have hw170_1 := hx170_1
     have hw170_0 := hx170_0
     cases e170
     replace hx170_0 := cl HB hx170_0
     replace hx170_1 := cl HB hx170_1
     replace hx170_2 := cl HB hx170_2
     replace hx170_3 := cl HB hx170_3
     replace p170 := eq_true p170
     replace q170 := eq_true q170
     refine sr 12 (fun w' => w'.cell? ⟨gb169, 0, none⟩ = some (.slice Ao34 x170000_1.length co34) ∧ w'.cell? (ad170.add ((x7_1).toNat * 4)) = some (.int .i64 ((rd_T41 l1 x7_1).f0)) ∧ w'.cell? ⟨(ad170.add ((x7_1).toNat * 4)).block, (ad170.add ((x7_1).toNat * 4)).off + 1, none⟩ = some (.string ((rd_T41 l1 x7_1).f1)) ∧ w'.cell? ⟨(ad170.add ((x7_1).toNat * 4)).block, (ad170.add ((x7_1).toNat * 4)).off + 2, none⟩ = some (.string ((rd_T41 l1 x7_1).f2)) ∧ w'.cell? ⟨(ad170.add ((x7_1).toNat * 4)).block, (ad170.add ((x7_1).toNat * 4)).off + 3, none⟩ = some (.string ((rd_T41 l1 x7_1).f3))) [] ⟨bc BK169 0, (cl HB hw170_0), (cl HB hw170_1), (cl HB hw170_2), (cl HB hw170_3)⟩ (fun hHeld => ?_); refine with_tabW spec_DoActs.tab5 spec_DoActs.bits5 (fun HT_ HW_ => ?_)
     generalize wr.drew = w35 at HO_170000 BK161 BK162 BK169 HB hx170_0 hx170_1 hx170_2 hx170_3 hHeld ⊢
     refine pt 1 23 ?_; refine pt 2 24 ?_; refine pt 3 25 ?_; refine tt 0 22 ?_; refine tt 4 26 ?_
     refine join_ (σ := Value × Nat) 2 #[true, true, true, true, true, true, true, true, true, true, false, false] (fun s_ => [(27, .tuple #[.agg #[s_.1], .bool false]), (8, .pointer (some ⟨s_.2, 0, none⟩)), (21, .tuple #[.agg #[s_.1], .bool false]), (28, .agg #[s_.1]), (29, .bool false)]) (fun s_ w' => (w'.cell? ⟨gb169, 0, none⟩ = some (.slice Ao34 x170000_1.length co34) ∧ w'.cell? (ad170.add ((x7_1).toNat * 4)) = some (.int .i64 ((rd_T41 l1 x7_1).f0)) ∧ w'.cell? ⟨(ad170.add ((x7_1).toNat * 4)).block, (ad170.add ((x7_1).toNat * 4)).off + 1, none⟩ = some (.string ((rd_T41 l1 x7_1).f1)) ∧ w'.cell? ⟨(ad170.add ((x7_1).toNat * 4)).block, (ad170.add ((x7_1).toNat * 4)).off + 2, none⟩ = some (.string ((rd_T41 l1 x7_1).f2)) ∧ w'.cell? ⟨(ad170.add ((x7_1).toNat * 4)).block, (ad170.add ((x7_1).toNat * 4)).off + 3, none⟩ = some (.string ((rd_T41 l1 x7_1).f3))) ∧ (Kd.R k67 67 w' w.heap.size (fun k_ => some k_ ≠ (.slice Ao34 x170000_1.length co34 : Value).ownBlock) s_.1 t171) ∧ (Kd.R k67 67 w' w.heap.size (fun k_ => some k_ ≠ (s_.1 : Value).ownBlock) (.slice Ao34 x170000_1.length co34) x170000_1) ∧ (w'.heap[gb161]? = some (.cells #[.slice A0_0 l0_0.length c0_0] 30 (0, 0))) ∧ (w'.heap[gb162]? = some (.cells #[.slice none 0 0] 30 (0, 0))) ∧ (w'.heap[gb169]? = some (.cells #[.slice Ao34 x170000_1.length co34] 30 (0, 0))) ∧ (w'.heap[s_.2]? = some (.cells #[.slice none 0 0] 30 (0, 0))) ∧ (w.heap.size ≤ s_.2) ∧ (w.heap.size ≤ s_.2) ∧ (gb161 ≠ s_.2) ∧ (s_.2 ≠ gb161) ∧ (gb162 ≠ s_.2) ∧ (s_.2 ≠ gb162) ∧ (gb169 ≠ s_.2) ∧ (s_.2 ≠ gb169) ∧ (Below w.heap.size w w')) ?_ ?_
     rotate_left
     ·intro hCont
      refine two_ (i := 5) (j := 9) (Ni := some 27) (Nj := some 8) #[true, true, true, true, true, true, false, false, false, false, false, false] #[true, true, true, true, true, false, false, false, false, true, false, false] rfl rfl rfl rfl (two_of HT_.out (by kernel_rfl)) (by decide) (by decide) (fun K hK => ?_) (fun K hK => ?_)
      ·skip
       refine goes_ Try.func17 (by kernel_rfl) rfl #[.agg #[.slice Ao34 x170000_1.length co34], .agg #[.int .i64 ((rd_T41 l1 x7_1).f0), .string ((rd_T41 l1 x7_1).f1), .string ((rd_T41 l1 x7_1).f2), .string ((rd_T41 l1 x7_1).f3)]] (by rfl) rfl rfl am ?_
       with_reducible refine (spec_DoAct.calls k1 _ _ x170000_1 ((rd_T41 l1 x7_1).f0) ((rd_T41 l1 x7_1).f1) ((rd_T41 l1 x7_1).f2) ((rd_T41 l1 x7_1).f3) t171 false _ ?side1 ?side2 A18.out).mono ?_
       (case side1 => repeat (first | exact (Kd.R_reads' HO_170000.out).2.2 | (with_reducible first | refine cA ?_ _ | refine cN ?_ _ | refine cD ?_)))
       (case side2 => exact (Kd.R_reads' HO_170000.out).2.1)
       rintro e w36 ⟨v172, rfl, ho0, hb⟩
       refine ⟨_, rfl, ?_⟩
       have HO173 := AM (Kd.R_lower (Kd.R_new' ho0 (Kd.R_lt (by exact HO_170000.out))) (below_size (hS)))
       replace HO_170000 := AM (Kd.R_elder' (by exact HO_170000.out) (Kd.R_base ho0) hb)
       replace BK161 := bw BK161 hb
       replace BK162 := bw BK162 hb
       replace BK169 := bw BK169 hb
       replace HB := AM (below_step (hS) hb)
       (try clear hb)
       (try clear hb2)
       (try clear hk)
       (try clear hi)
       (try clear ho0)
       refine hK.out _ _ ⟨bc BK169 0, (cl HB hw170_0), (cl HB hw170_1), (cl HB hw170_2), (cl HB hw170_3)⟩ (fun hHeld => ?_)
       clear hK K
       refine nr ?_
       refine pt 6 21 ?_; refine pt 7 28 ?_; refine pt 8 29 ?_
       refine ot 9 (some 8) fun K hK => ?_
       refine box_step ?hg (N := 8) ?hd (cs := #[.slice none 0 0]) (t := 30) ?hr ?_; (case hd => rfl); (case hg => rfl); (case hr => first | (go_simp; done) | (go_simp; rfl))
       intro gb175 hg w37 hbox hb
       replace HO_170000 := AM (Kd.R_below (by exact HO_170000.out) hb)
       replace HO173 := AM (Kd.R_below (by exact HO173.out) hb)
       have BK175 := AM (hbox)
       have GW175 := AM (bt hg hS)
       have GE175 := AM (bt hg hS)
       replace HB := AM (below_step (hS) hb)
       have NB161_175 := AM (nl hg (bk BK161))
       have NB175_161 := AM (ng hg (bk BK161))
       replace BK161 := bw BK161 hb
       have NB162_175 := AM (nl hg (bk BK162))
       have NB175_162 := AM (ng hg (bk BK162))
       replace BK162 := bw BK162 hb
       have NB169_175 := AM (nl hg (bk BK169))
       have NB175_169 := AM (ng hg (bk BK169))
       replace BK169 := bw BK169 hb
       clear hb hbox hg
       refine hK.out _ _ ⟨bc BK169 0, (cl HB hw170_0), (cl HB hw170_1), (cl HB hw170_2), (cl HB hw170_3)⟩ (fun hHeld => ?_)
       clear hK K
       refine nr ?_
       exact norm_ (by simp only [putAll, Act.put, qT, q0, qS]) (hCont (v172, gb175) _ ⟨hHeld, (by exact Kd.R_mono HO173.out (fun _ hk => hk.2)), (by exact Kd.R_mono HO_170000.out (fun _ hk => hk.2)), (bk BK161), (bk BK162), (bk BK169), (bk BK175), GW175.out, GE175.out, NB161_175.out, NB175_161.out, NB162_175.out, NB175_162.out, NB169_175.out, NB175_169.out, (hS)⟩)
      skip
      refine box_step ?hg (N := 8) ?hd (cs := #[.slice none 0 0]) (t := 30) ?hr ?_; (case hd => rfl); (case hg => rfl); (case hr => first | (go_simp; done) | (go_simp; rfl))
      intro gb175 hg w36 hbox hb
      replace HO_170000 := AM (Kd.R_below (by exact HO_170000.out) hb)
      have BK175 := AM (hbox)
      have GW175 := AM (bt hg hS)
      have GE175 := AM (bt hg hS)
      replace HB := AM (below_step (hS) hb)
      have NB161_175 := AM (nl hg (bk BK161))
      have NB175_161 := AM (ng hg (bk BK161))
      replace BK161 := bw BK161 hb
      have NB162_175 := AM (nl hg (bk BK162))
      have NB175_162 := AM (ng hg (bk BK162))
      replace BK162 := bw BK162 hb
      have NB169_175 := AM (nl hg (bk BK169))
      have NB175_169 := AM (ng hg (bk BK169))
      replace BK169 := bw BK169 hb
      clear hb hbox hg
      refine hK.out _ _ ⟨bc BK169 0, (cl HB hw170_0), (cl HB hw170_1), (cl HB hw170_2), (cl HB hw170_3)⟩ (fun hHeld => ?_)
      clear hK K
      refine nr ?_
      refine ot 5 (some 27) fun K hK => ?_
      refine goes_ Try.func17 (by kernel_rfl) rfl #[.agg #[.slice Ao34 x170000_1.length co34], .agg #[.int .i64 ((rd_T41 l1 x7_1).f0), .string ((rd_T41 l1 x7_1).f1), .string ((rd_T41 l1 x7_1).f2), .string ((rd_T41 l1 x7_1).f3)]] (by rfl) rfl rfl am ?_
      with_reducible refine (spec_DoAct.calls k1 _ _ x170000_1 ((rd_T41 l1 x7_1).f0) ((rd_T41 l1 x7_1).f1) ((rd_T41 l1 x7_1).f2) ((rd_T41 l1 x7_1).f3) t171 false _ ?side1 ?side2 A18.out).mono ?_
      (case side1 => repeat (first | exact (Kd.R_reads' HO_170000.out).2.2 | (with_reducible first | refine cA ?_ _ | refine cN ?_ _ | refine cD ?_)))
      (case side2 => exact (Kd.R_reads' HO_170000.out).2.1)
      rintro e w37 ⟨v172, rfl, ho0, hb⟩
      refine ⟨_, rfl, ?_⟩
      have HO173 := AM (Kd.R_lower (Kd.R_new' ho0 (Kd.R_lt (by exact HO_170000.out))) (below_size (hS)))
      replace HO_170000 := AM (Kd.R_elder' (by exact HO_170000.out) (Kd.R_base ho0) hb)
      replace BK161 := bw BK161 hb
      replace BK162 := bw BK162 hb
      replace BK169 := bw BK169 hb
      replace BK175 := bw BK175 hb
      replace HB := AM (below_step (hS) hb)
      (try clear hb)
      (try clear hb2)
      (try clear hk)
      (try clear hi)
      (try clear ho0)
      refine hK.out _ _ ⟨bc BK169 0, (cl HB hw170_0), (cl HB hw170_1), (cl HB hw170_2), (cl HB hw170_3)⟩ (fun hHeld => ?_)
      clear hK K
      refine nr ?_
      refine pt 6 21 ?_; refine pt 7 28 ?_; refine pt 8 29 ?_
      exact norm_ (by simp only [putAll, Act.put, qT, q0, qS]) (hCont (v172, gb175) _ ⟨hHeld, (by exact Kd.R_mono HO173.out (fun _ hk => hk.2)), (by exact Kd.R_mono HO_170000.out (fun _ hk => hk.2)), (bk BK161), (bk BK162), (bk BK169), (bk BK175), GW175.out, GE175.out, NB161_175.out, NB175_161.out, NB162_175.out, NB175_162.out, NB169_175.out, NB175_169.out, (hS)⟩)
     rintro ⟨v172, gb175⟩ w38 ⟨hS_, h0_, h1_, h2_, h3_, h4_, h5_, h6_, h7_, h8_, h9_, h10_, h11_, h12_, h13_, h14_⟩
     have n0_ : Aside0 (Kd.R k67 67 w38 w.heap.size (fun k_ => some k_ ≠ (.slice Ao34 x170000_1.length co34 : Value).ownBlock) v172 t171) := ⟨h0_⟩
     have n1_ : Aside0 (Kd.R k67 67 w38 w.heap.size (fun k_ => some k_ ≠ (v172 : Value).ownBlock) (.slice Ao34 x170000_1.length co34) x170000_1) := ⟨h1_⟩
     have n2_ : Aside0 (w38.heap[gb161]? = some (.cells #[.slice A0_0 l0_0.length c0_0] 30 (0, 0))) := ⟨h2_⟩
     have n3_ : Aside0 (w38.heap[gb162]? = some (.cells #[.slice none 0 0] 30 (0, 0))) := ⟨h3_⟩
     have n4_ : Aside0 (w38.heap[gb169]? = some (.cells #[.slice Ao34 x170000_1.length co34] 30 (0, 0))) := ⟨h4_⟩
     have n5_ : Aside0 (w38.heap[gb175]? = some (.cells #[.slice none 0 0] 30 (0, 0))) := ⟨h5_⟩
     have n6_ : Aside0 (w.heap.size ≤ gb175) := ⟨h6_⟩
     have n7_ : Aside0 (w.heap.size ≤ gb175) := ⟨h7_⟩
     have n8_ : Aside0 (gb161 ≠ gb175) := ⟨h8_⟩
     have n9_ : Aside0 (gb175 ≠ gb161) := ⟨h9_⟩
     have n10_ : Aside0 (gb162 ≠ gb175) := ⟨h10_⟩
     have n11_ : Aside0 (gb175 ≠ gb162) := ⟨h11_⟩
     have n12_ : Aside0 (gb169 ≠ gb175) := ⟨h12_⟩
     have n13_ : Aside0 (gb175 ≠ gb169) := ⟨h13_⟩
     have n14_ : Aside0 (Below w.heap.size w w38) := ⟨h14_⟩
     clear HO_170000
     clear BK161
     clear BK162
     clear BK169
     clear HB
     clear h0_ h1_ h2_ h3_ h4_ h5_ h6_ h7_ h8_ h9_ h10_ h11_ h12_ h13_ h14_
     have HO173 := n0_
     have HO_170000 := n1_
     have BK161 := n2_
     have BK162 := n3_
     have BK169 := n4_
     have BK175 := n5_
     have GW175 := n6_
     have GE175 := n7_
     have NB161_175 := n8_
     have NB175_161 := n9_
     have NB162_175 := n10_
     have NB175_162 := n11_
     have NB169_175 := n12_
     have NB175_169 := n13_
     have HB := n14_
     clear n0_ n1_ n2_ n3_ n4_ n5_ n6_ n7_ n8_ n9_ n10_ n11_ n12_ n13_ n14_
     have hHeld : w38.cell? ⟨gb169, 0, none⟩ = some (.slice Ao34 x170000_1.length co34) ∧ w38.cell? (ad170.add ((x7_1).toNat * 4)) = some (.int .i64 ((rd_T41 l1 x7_1).f0)) ∧ w38.cell? ⟨(ad170.add ((x7_1).toNat * 4)).block, (ad170.add ((x7_1).toNat * 4)).off + 1, none⟩ = some (.string ((rd_T41 l1 x7_1).f1)) ∧ w38.cell? ⟨(ad170.add ((x7_1).toNat * 4)).block, (ad170.add ((x7_1).toNat * 4)).off + 2, none⟩ = some (.string ((rd_T41 l1 x7_1).f2)) ∧ w38.cell? ⟨(ad170.add ((x7_1).toNat * 4)).block, (ad170.add ((x7_1).toNat * 4)).off + 3, none⟩ = some (.string ((rd_T41 l1 x7_1).f3)) := hS_
     obtain ⟨Ao39, co39, eo39⟩ := Kd.R_slice HO173.out
     (first | subst eo39 | (injection eo39 with f1_ f2_ f3_; have f4_ := f1_.symm; have f5_ := f3_.symm; clear f1_ f2_ f3_; subst f4_; subst f5_))
     refine norm_ (a' := ?_) ?_ ?_
     rotate_left
     ·simp only [putAll, Act.put, qT, q0, qS]
      rfl
     refine ot 10 none fun K hK => ?_
     have hs40 : w38.cell? ⟨gb175, 0, none⟩ = some (.slice none 0 0) := bc BK175 0
     have hfs40 := bz BK175 0
     have hns40_0 := NB161_175.out
     have hns40_1 := NB162_175.out
     have hns40_2 := NB169_175.out
     have hms40_0 := NB175_161.out
     have hms40_1 := NB175_162.out
     have hms40_2 := NB175_169.out
     refine sk ?_
     refine hK.out _ _ ⟨((cell_far (p := ⟨gb175, _, none⟩) NB169_175.out _).trans (hHeld.1)), ((cell_far (p := ⟨gb175, _, none⟩) (by first | exact Nat.ne_of_lt (Nat.lt_of_lt_of_le (by have := World.block_lt_of_cell? _ _ hw170_0; first | rwa [add_block] at this | exact this) GW175.out) | (rw [add_block]; exact Nat.ne_of_lt (Nat.lt_of_lt_of_le (by have := World.block_lt_of_cell? _ _ hw170_0; first | rwa [add_block] at this | exact this) GW175.out)) | (show (Addr.add _ _).block ≠ _; rw [add_block]; exact Nat.ne_of_lt (Nat.lt_of_lt_of_le (by have := World.block_lt_of_cell? _ _ hw170_0; first | rwa [add_block] at this | exact this) GW175.out)) | (dsimp only; exact Nat.ne_of_lt (Nat.lt_of_lt_of_le (by have := World.block_lt_of_cell? _ _ hw170_0; first | rwa [add_block] at this | exact this) GW175.out))) _).trans (hHeld.2.1)), ((cell_far (p := ⟨gb175, _, none⟩) (by first | exact Nat.ne_of_lt (Nat.lt_of_lt_of_le (by have := World.block_lt_of_cell? _ _ hw170_1; first | rwa [add_block] at this | exact this) GW175.out) | (rw [add_block]; exact Nat.ne_of_lt (Nat.lt_of_lt_of_le (by have := World.block_lt_of_cell? _ _ hw170_1; first | rwa [add_block] at this | exact this) GW175.out)) | (show (Addr.add _ _).block ≠ _; rw [add_block]; exact Nat.ne_of_lt (Nat.lt_of_lt_of_le (by have := World.block_lt_of_cell? _ _ hw170_1; first | rwa [add_block] at this | exact this) GW175.out)) | (dsimp only; exact Nat.ne_of_lt (Nat.lt_of_lt_of_le (by have := World.block_lt_of_cell? _ _ hw170_1; first | rwa [add_block] at this | exact this) GW175.out))) _).trans (hHeld.2.2.1)), ((cell_far (p := ⟨gb175, _, none⟩) (by first | exact Nat.ne_of_lt (Nat.lt_of_lt_of_le (by have := World.block_lt_of_cell? _ _ hw170_2; first | rwa [add_block] at this | exact this) GW175.out) | (rw [add_block]; exact Nat.ne_of_lt (Nat.lt_of_lt_of_le (by have := World.block_lt_of_cell? _ _ hw170_2; first | rwa [add_block] at this | exact this) GW175.out)) | (show (Addr.add _ _).block ≠ _; rw [add_block]; exact Nat.ne_of_lt (Nat.lt_of_lt_of_le (by have := World.block_lt_of_cell? _ _ hw170_2; first | rwa [add_block] at this | exact this) GW175.out)) | (dsimp only; exact Nat.ne_of_lt (Nat.lt_of_lt_of_le (by have := World.block_lt_of_cell? _ _ hw170_2; first | rwa [add_block] at this | exact this) GW175.out))) _).trans (hHeld.2.2.2.1)), ((cell_far (p := ⟨gb175, _, none⟩) (by first | exact Nat.ne_of_lt (Nat.lt_of_lt_of_le (by have := World.block_lt_of_cell? _ _ hw170_3; first | rwa [add_block] at this | exact this) GW175.out) | (rw [add_block]; exact Nat.ne_of_lt (Nat.lt_of_lt_of_le (by have := World.block_lt_of_cell? _ _ hw170_3; first | rwa [add_block] at this | exact this) GW175.out)) | (show (Addr.add _ _).block ≠ _; rw [add_block]; exact Nat.ne_of_lt (Nat.lt_of_lt_of_le (by have := World.block_lt_of_cell? _ _ hw170_3; first | rwa [add_block] at this | exact this) GW175.out)) | (dsimp only; exact Nat.ne_of_lt (Nat.lt_of_lt_of_le (by have := World.block_lt_of_cell? _ _ hw170_3; first | rwa [add_block] at this | exact this) GW175.out))) _).trans (hHeld.2.2.2.2))⟩ (fun hHeld => ?_)
     clear hK K
     refine pt 11 9 ?_
     refine dn ?_
     have hnb41 := NB169_161.out
     have hnc41 := NB161_169.out
     have hnb42 := NB169_162.out
     have hnc42 := NB162_169.out
     have hnb43 := NB169_175.out
     have hnc43 := NB175_169.out
     have hcz44_0 := bv BK169 0 (.slice Ao34 x170000_1.length co34)
     have hfz44_0 := bz BK169 0
     have hnb45 := NB162_161.out
     have hnc45 := NB161_162.out
     have hnb46 := NB162_175.out
     have hnc46 := NB175_162.out
     have hcz47_0 := bv BK162 0 (.slice none 0 0)
     have hfz47_0 := bz BK162 0
     try go_wp2
     refine bodyPost_ret (results_ct rfl _ _ gb162 30 #[.slice Ao34 x170000_1.length co34] (0, 0) _ rfl (bp #[.slice none 0 0] 0) Try.underlying30 rfl (by kernel_rfl)) rfl ?_
     exact ⟨_, er, by exact Kd.R_mono (Kd.R_far (p := ⟨gb162, 0, none⟩) (Kd.R_far (p := ⟨gb175, 0, none⟩) (Kd.R_types (Kd.R_types HO_170000.out BK175.out (by decide)) BK162.out (by decide)) (fun _ hk => hk.1.2) (.slice Ao39 t171.length co39)) (fun _ hk => hk.2) (.slice Ao34 x170000_1.length co34)) (fun _ hk => trivial), hS⟩
    rw [if_neg c17] at H
    exact absurd H (by simp)
   rw [if_neg c16] at H
   have c16b0 : decide (x7_1 < (l1.length : Int)) = false := decide_eq_false c16
   clear c16
   simp only [Option.some.injEq, Prod.mk.injEq] at H
   obtain ⟨rfl, rfl⟩ := H
   have hnb48 := NB169_161.out
   have hnc48 := NB161_169.out
   have hnb49 := NB169_162.out
   have hnc49 := NB162_169.out
   have hcz50_0 := bv BK169 0 (u170000)
   have hfz50_0 := bz BK169 0
   obtain ⟨Ao51, co51, eo51⟩ := Kd.R_slice HO_170000.out
   subst eo51
   have hnb52 := NB162_161.out
   have hnc52 := NB161_162.out
   have hcz53_0 := bv BK162 0 (.slice none 0 0)
   have hfz53_0 := bz BK162 0
   go_wp2
   refine bodyPost_ret (results_ct rfl _ _ gb162 30 #[.slice Ao51 x170000_1.length co51] (0, 0) _ rfl (bp #[.slice none 0 0] 0) Try.underlying30 rfl (by kernel_rfl)) rfl ?_
   exact ⟨_, er, by exact Kd.R_mono (Kd.R_far (p := ⟨gb162, 0, none⟩) (Kd.R_types HO_170000.out BK162.out (by decide)) (fun _ hk => hk.2) (.slice Ao51 x170000_1.length co51)) (fun _ hk => trivial), hS⟩
 rw [if_neg c3] at H
 exact absurd H (by simp)

/-! ### impl_DoActs: function 25 -/
def impl_DoActs.l0 : Nat → List (S41) → List (S41) → Int → Int → List (S67) → Option ((List (S67)) × Int)
 | 0, _, _, _, _, _ => none
 | k + 1, x1, x13, x14, x15, x182000 => if x15 < x14 then (if 0 ≤ x15 then (if x15 < (x13.length : Int) then ((impl_DoAct.f k x182000 ((rd_T41 x13 x15).f0) ((rd_T41 x13 x15).f1) ((rd_T41 x13 x15).f2) ((rd_T41 x13 x15).f3)).bind fun bt184 => (if bt184.2 = true then (impl_DoActs.l0 k x1 x13 x14 (wrap64 (x15 + 1)) bt184.1) else (some (x182000, x15)))) else (none)) else (none)) else (some (x182000, (x1.length : Int)))
def impl_DoActs.f (k : Nat) (l0_0 : List (S67)) (l1 : List (S41)) : Option ((List (S67)) × Int) := (impl_copyDisk.f l0_0).bind fun t178 => (impl_DoActs.l0 k l1 l1 (l1.length : Int) 0 t178)
theorem impl_DoActs.mono_l : ∀ k, (∀ y0 y1 y2 y3 y4, LeO (impl_DoActs.l0 k y0 y1 y2 y3 y4) (impl_DoActs.l0 (k + 1) y0 y1 y2 y3 y4))
 | 0 => fun _ _ _ _ _ r h => by simp [impl_DoActs.l0] at h
 | k + 1 => by
  have ih0 := impl_DoActs.mono_l k
  intro y0 y1 y2 y3 y4
  unfold impl_DoActs.l0
  repeat' first
  | (with_reducible exact LeO.refl _)
  | (with_reducible refine LeO.ite ?_ ?_)
  | (with_reducible refine LeO.bind ?_ (fun _ => ?_))
  | exact ih0 _ _ _ _ _
  | exact impl_DoAct.mono _ _ _ _ _ _
  | exact LeO.none _
  | refine LeO.ite ?_ ?_
  | refine LeO.bind ?_ (fun _ => ?_)
theorem impl_DoActs.mono : ∀ a0 a1 k, LeO (impl_DoActs.f k a0 a1) (impl_DoActs.f (k + 1) a0 a1) := by
 intro a0 a1 k
 have ih0 := impl_DoActs.mono_l k
 unfold impl_DoActs.f
 repeat' first
   | (with_reducible exact LeO.refl _)
   | (with_reducible refine LeO.ite ?_ ?_)
   | (with_reducible refine LeO.bind ?_ (fun _ => ?_))
   | exact ih0 _ _ _ _ _
   | exact impl_DoAct.mono _ _ _ _ _ _
   | exact LeO.none _
   | refine LeO.ite ?_ ?_
   | refine LeO.bind ?_ (fun _ => ?_)
set_option maxHeartbeats 8000000 in
set_option maxRecDepth 100000 in
theorem impl_DoActs.calls (k : Nat) (A0_0 : Option Addr) (c0_0 : Nat) (l0_0 : List (S67)) (A1 : Option Addr) (c1 : Nat) (l1 : List (S41)) (r1 : List (S67)) (r2 : Int) (w : World) (hr0_0 : Kd.C k67 w A0_0 l0_0.length l0_0) (hc0_0 : l0_0.length ≤ c0_0) (hr1 : Kd.C k41 w A1 l1.length l1) (hc1 : l1.length ≤ c1) (h : impl_DoActs.f k l0_0 l1 = some (r1, r2)) :
  Calls Try.prog 25 #[.agg #[.slice A0_0 l0_0.length c0_0], .slice A1 l1.length c1] w fun e w' => ∃ v0_ : Value, e = .returned (.tuple #[.agg #[v0_], .int .i64 r2]) ∧ Kd.R k67 67 w' w.heap.size (fun _ => True) v0_ r1 ∧ Below w.heap.size w w' := by
 have hu30 := Try.underlying30
 have hu41 := Try.underlying41
 have HR0_0 := AM hr0_0
 have HC0_0 := AM hc0_0
 clear hr0_0 hc0_0
 have HR1 := AM hr1
 have HC1 := AM hc1
 clear hr1 hc1
 have HB := AM (Below.refl w.heap.size w)
 have H : ((impl_copyDisk.f l0_0).bind fun t178 => (impl_DoActs.l0 k l1 l1 (l1.length : Int) 0 t178)) = some (r1, r2) := h
 clear h
 replace H := bm H
 obtain ⟨t178, A30, H⟩ := H
 replace H : (impl_DoActs.l0 k l1 l1 (l1.length : Int) 0 t178) = some (r1, r2) := H
 have A3 := AM A30
 clear A30
 have H' := AM H
 clear H
 go_enter Try.func25, Try.ntmps25
 go_wp2_with (first | ((with_reducible refine gd 2 rfl ?_); refine bx (N := 2) (cs := #[.slice A0_0 l0_0.length c0_0]) (t := 30) ?_; intro gb176 hg w4 hbox hb; have BK176 := AM (hbox); have GW176 := AM (bs hg HB); have GE176 := AM (bs hg HB); replace HB := bq HB hb; clear hb hbox hg) | ((with_reducible refine gd 4 rfl ?_); refine bx (N := 4) (cs := #[.slice none 0 0]) (t := 30) ?_; intro gb177 hg w5 hbox hb; have BK177 := AM (hbox); have GW177 := AM (bt hg hS); have GE177 := AM (bt hg hS); replace HB := AM (below_step (hS) hb); have NB176_177 := AM (nl hg (bk BK176)); have NB177_176 := AM (ng hg (bk BK176)); replace BK176 := bw BK176 hb; clear hb hbox hg; have hnb6 := NB176_177.out; have hnc6 := NB177_176.out; have hcz7_0 := bv BK176 0 (.slice A0_0 l0_0.length c0_0); have hfz7_0 := bz BK176 0) | ((with_reducible refine gc 48 rfl ?_); refine gl 12 Try.func48 #[.agg #[.slice A0_0 l0_0.length c0_0]] ?_; (with_reducible refine (impl_copyDisk.calls _ _ l0_0 t178 _ ?side1 ?side2 A3.out).mono ?_); (case side1 => repeat (first | exact (Kd.C_below HR0_0.out HB.out) | (with_reducible first | refine cA ?_ _ | refine cN ?_ _ | refine cD ?_))); (case side2 => exact HC0_0.out); rintro e w8 ⟨v179, rfl, ho0, hb⟩; refine ⟨_, rfl, ?_⟩; have HO180 := AM (Kd.R_lower ho0 (below_size (hS))); replace BK176 := bw BK176 hb; replace BK177 := bw BK177 hb; replace HB := AM (below_step (hS) hb); (try clear hb); (try clear ho0)) | ((with_reducible refine gd 6 rfl ?_); refine bx (N := 6) (cs := #[.slice none 0 0]) (t := 30) ?_; intro gb181 hg w9 hbox hb; replace HO180 := AM (Kd.R_below (by exact HO180.out) hb); have BK181 := AM (hbox); have GW181 := AM (bt hg hS); have GE181 := AM (bt hg hS); replace HB := AM (below_step (hS) hb); have NB176_181 := AM (nl hg (bk BK176)); have NB181_176 := AM (ng hg (bk BK176)); replace BK176 := bw BK176 hb; have NB177_181 := AM (nl hg (bk BK177)); have NB181_177 := AM (ng hg (bk BK177)); replace BK177 := bw BK177 hb; clear hb hbox hg; obtain ⟨Ao10, co10, eo10⟩ := Kd.R_slice HO180.out; subst eo10; have hnb11 := NB181_176.out; have hnc11 := NB176_181.out; have hnb12 := NB181_177.out; have hnc12 := NB177_181.out; have hcz13_0 := bv BK181 0 (.slice none 0 0); have hfz13_0 := bz BK181 0))
 go_loopg [15] k (fun kq v15 w' => ∃ (x15_1 : Int) (x182000_1 : List (S67)) (u182000 : Value), v15 = .int .i64 x15_1 ∧ Aside0 (impl_DoActs.l0 kq l1 l1 (l1.length : Int) x15_1 x182000_1 = some (r1, r2)) ∧ Aside0 (kq ≤ k) ∧ Aside0 (Kd.R k67 67 w' w.heap.size (fun _ => True) u182000 x182000_1) ∧ Aside0 (w'.heap[gb176]? = some (.cells #[(.slice A0_0 l0_0.length c0_0)] 30 (0, 0))) ∧ Aside0 (w'.heap[gb177]? = some (.cells #[(.slice none 0 0)] 30 (0, 0))) ∧ Aside0 (w'.heap[gb181]? = some (.cells #[u182000] 30 (0, 0))) ∧ Aside0 (Below w.heap.size w w'))
 case atStart => exact ⟨(0), (t178), (.slice Ao10 t178.length co10), sf, H', ⟨Nat.le_refl _⟩, ⟨by exact Kd.R_mono (Kd.R_far (p := ⟨gb181, 0, none⟩) (Kd.R_types HO180.out BK181.out (by decide)) (fun _ hk => hk.2) (.slice Ao10 t178.length co10)) (fun _ hk => trivial)⟩, ⟨be⟩, ⟨be⟩, ⟨bp #[.slice none 0 0] 0⟩, ⟨hS⟩⟩
 clear H'
 obtain ⟨x15_1, x182000_1, u182000, rfl, HA, HK1, HO_182000, BK176, BK177, BK181, HB⟩ := hrel
 cases gk with
 | zero => exact absurd HA.out (by simp [impl_DoActs.l0])
 | succ k1 =>
  have H := HA.out
  clear HA
  simp only [impl_DoActs.l0] at H
  by_cases c14 : x15_1 < (l1.length : Int)
  ·rw [if_pos c14] at H
   have c14b0 : decide (x15_1 < (l1.length : Int)) = true := decide_eq_true c14
   clear c14
   by_cases c15 : 0 ≤ x15_1
   ·rw [if_pos c15] at H
    have c15b0 : decide (0 ≤ x15_1) = true := decide_eq_true c15
    clear c15
    by_cases c16 : x15_1 < (l1.length : Int)
    ·rw [if_pos c16] at H
     have c16b0 : decide (x15_1 < (l1.length : Int)) = true := decide_eq_true c16
     clear c16
     replace H := bm H
     obtain ⟨⟨t184, t187⟩, A170, H⟩ := H
     replace H : (if t187 = true then (impl_DoActs.l0 k1 l1 l1 (l1.length : Int) (wrap64 (x15_1 + 1)) t184) else (some (x182000_1, x15_1))) = some (r1, r2) := H
     have A17 := AM A170
     clear A170
     by_cases c18 : t187 = true
     ·subst c18
      have H1 : (impl_DoActs.l0 k1 l1 l1 (l1.length : Int) (wrap64 (x15_1 + 1)) t184) = some (r1, r2) := by rw [if_pos rfl] at H; exact H
      clear H
      have H := H1
      clear H1
      have H' := AM H
      clear H
      have p182 : 0 ≤ (x15_1 : Int) := od
      have q182 : x15_1 < (l1.length : Int) := od
      obtain ⟨ad182, e182, hx182_0, hx182_1, hx182_2, hx182_3⟩ := at_T41 HR1.out x15_1 p182 q182
      cases e182
      replace hx182_0 := cl HB hx182_0
      replace hx182_1 := cl HB hx182_1
      replace hx182_2 := cl HB hx182_2
      replace hx182_3 := cl HB hx182_3
      replace p182 := eq_true p182
      replace q182 := eq_true q182
      go_wp2_with (first | ((with_reducible refine gd 8 rfl ?_); refine bx (N := 8) (cs := #[.int .i64 0, .string (⟨#[]⟩ : ByteArray), .string (⟨#[]⟩ : ByteArray), .string (⟨#[]⟩ : ByteArray)]) (t := 41) ?_; intro gb183 hg w19 hbox hb; replace HO_182000 := AM (Kd.R_below (by exact HO_182000.out) hb); have BK183 := AM (hbox); have GW183 := AM (bt hg hS); have GE183 := AM (bt hg hS); replace HB := AM (below_step (hS) hb); have NB176_183 := AM (nl hg (bk BK176)); have NB183_176 := AM (ng hg (bk BK176)); replace BK176 := bw BK176 hb; have NB177_183 := AM (nl hg (bk BK177)); have NB183_177 := AM (ng hg (bk BK177)); replace BK177 := bw BK177 hb; have NB181_183 := AM (nl hg (bk BK181)); have NB183_181 := AM (ng hg (bk BK181)); replace BK181 := bw BK181 hb; clear hb hbox hg; have hnb20 := NB183_176.out; have hnc20 := NB176_183.out; have hnb21 := NB183_177.out; have hnc21 := NB177_183.out; have hnb22 := NB183_181.out; have hnc22 := NB181_183.out; have hcz23_0 := bv BK183 0 (.int .i64 0); have hcz23_1 := bv BK183 1 (.string (⟨#[]⟩ : ByteArray)); have hcz23_2 := bv BK183 2 (.string (⟨#[]⟩ : ByteArray)); have hcz23_3 := bv BK183 3 (.string (⟨#[]⟩ : ByteArray)); have hfz23_0 := bz BK183 0; have hfz23_1 := bz BK183 1; have hfz23_2 := bz BK183 2; have hfz23_3 := bz BK183 3; have hnb24 := NB181_176.out; have hnc24 := NB176_181.out; have hnb25 := NB181_177.out; have hnc25 := NB177_181.out; have hcz26_0 := bv BK181 0 (u182000); have hfz26_0 := bz BK181 0; obtain ⟨Ao27, co27, eo27⟩ := Kd.R_slice HO_182000.out; subst eo27) | ((with_reducible refine gc 19 rfl ?_); refine gl 23 Try.func19 #[.agg #[.slice Ao27 x182000_1.length co27], .agg #[.int .i64 ((rd_T41 l1 x15_1).f0), .string ((rd_T41 l1 x15_1).f1), .string ((rd_T41 l1 x15_1).f2), .string ((rd_T41 l1 x15_1).f3)]] ?_; (with_reducible refine (impl_DoAct.calls k1 _ _ x182000_1 ((rd_T41 l1 x15_1).f0) ((rd_T41 l1 x15_1).f1) ((rd_T41 l1 x15_1).f2) ((rd_T41 l1 x15_1).f3) t184 true _ ?side1 ?side2 A17.out).mono ?_); (case side1 => refine (Kd.R_reads' (e := 67) (base := w.heap.size) (ok := fun k_ => True) (n := x182000_1.length) (c := co27) ?_).2.2; exact (by exact (Kd.R_mono (Kd.R_far (p := ⟨gb183, 3, none⟩) (Kd.R_far (p := ⟨gb183, 2, none⟩) (Kd.R_far (p := ⟨gb183, 1, none⟩) (Kd.R_far (p := ⟨gb183, 0, none⟩) (Kd.R_types HO_182000.out BK183.out (by decide)) (fun _ hk => hk.2) (.int .i64 ((rd_T41 l1 x15_1).f0))) (fun _ hk => hk.2) (.string ((rd_T41 l1 x15_1).f1))) (fun _ hk => hk.2) (.string ((rd_T41 l1 x15_1).f2))) (fun _ hk => hk.2) (.string ((rd_T41 l1 x15_1).f3))) (fun _ h_ => h_.1)))); (case side2 => exact (Kd.R_reads' HO_182000.out).2.1); rintro e w28 ⟨v185, rfl, ho0, hb⟩; refine ⟨_, rfl, ?_⟩; have n0_ := AM (Kd.R_elder' (by exact (Kd.R_mono (Kd.R_far (p := ⟨gb183, 3, none⟩) (Kd.R_far (p := ⟨gb183, 2, none⟩) (Kd.R_far (p := ⟨gb183, 1, none⟩) (Kd.R_far (p := ⟨gb183, 0, none⟩) (Kd.R_types HO_182000.out BK183.out (by decide)) (fun _ hk => hk.2) (.int .i64 ((rd_T41 l1 x15_1).f0))) (fun _ hk => hk.2) (.string ((rd_T41 l1 x15_1).f1))) (fun _ hk => hk.2) (.string ((rd_T41 l1 x15_1).f2))) (fun _ hk => hk.2) (.string ((rd_T41 l1 x15_1).f3))) (fun _ h_ => h_.1))) (Kd.R_base ho0) hb); have n1_ := AM (Kd.R_lower (Kd.R_new' ho0 (Kd.R_lt (by exact (Kd.R_mono (Kd.R_far (p := ⟨gb183, 3, none⟩) (Kd.R_far (p := ⟨gb183, 2, none⟩) (Kd.R_far (p := ⟨gb183, 1, none⟩) (Kd.R_far (p := ⟨gb183, 0, none⟩) (Kd.R_types HO_182000.out BK183.out (by decide)) (fun _ hk => hk.2) (.int .i64 ((rd_T41 l1 x15_1).f0))) (fun _ hk => hk.2) (.string ((rd_T41 l1 x15_1).f1))) (fun _ hk => hk.2) (.string ((rd_T41 l1 x15_1).f2))) (fun _ hk => hk.2) (.string ((rd_T41 l1 x15_1).f3))) (fun _ h_ => h_.1))))) (below_size (hS))); have n2_ := AM (blk_below (g := gb176) (o := .cells #[.slice A0_0 l0_0.length c0_0] 30 (0, 0)) (be) hb); have n3_ := AM (blk_below (g := gb177) (o := .cells #[.slice none 0 0] 30 (0, 0)) (be) hb); have n4_ := AM (blk_below (g := gb181) (o := .cells #[.slice Ao27 x182000_1.length co27] 30 (0, 0)) (be) hb); have n5_ := AM (blk_below (g := gb183) (o := .cells #[.int .i64 ((rd_T41 l1 x15_1).f0), .string ((rd_T41 l1 x15_1).f1), .string ((rd_T41 l1 x15_1).f2), .string ((rd_T41 l1 x15_1).f3)] 41 (0, 0)) (by (with_reducible repeat first | apply aN | apply aD | apply aA); refine blk_put (cs := #[.int .i64 ((rd_T41 l1 x15_1).f0), .string ((rd_T41 l1 x15_1).f1), .string ((rd_T41 l1 x15_1).f2), .string (⟨#[]⟩ : ByteArray)]) ?_ 3 _ rfl; (with_reducible repeat first | apply aN | apply aD | apply aA); refine blk_put (cs := #[.int .i64 ((rd_T41 l1 x15_1).f0), .string ((rd_T41 l1 x15_1).f1), .string (⟨#[]⟩ : ByteArray), .string (⟨#[]⟩ : ByteArray)]) ?_ 2 _ rfl; (with_reducible repeat first | apply aN | apply aD | apply aA); refine blk_put (cs := #[.int .i64 ((rd_T41 l1 x15_1).f0), .string (⟨#[]⟩ : ByteArray), .string (⟨#[]⟩ : ByteArray), .string (⟨#[]⟩ : ByteArray)]) ?_ 1 _ rfl; (with_reducible repeat first | apply aN | apply aD | apply aA); refine blk_put (cs := #[.int .i64 0, .string (⟨#[]⟩ : ByteArray), .string (⟨#[]⟩ : ByteArray), .string (⟨#[]⟩ : ByteArray)]) ?_ 0 _ rfl; exact bk BK183) hb); have n6_ := AM (below_step (hS) hb); clear HO_182000; clear BK176; clear BK177; clear BK181; clear BK183; clear HB; have HO_182000 := n0_; have HO186 := n1_; have BK176 := n2_; have BK177 := n3_; have BK181 := n4_; have BK183 := n5_; have HB := n6_; clear n0_ n1_ n2_ n3_ n4_ n5_ n6_; (try clear hb); (try clear hk); (try clear ho0)) | ((with_reducible refine gd 9 rfl ?_); refine bx (N := 9) (cs := #[.slice none 0 0]) (t := 30) ?_; intro gb188 hg w29 hbox hb; replace HO_182000 := AM (Kd.R_below (by exact HO_182000.out) hb); replace HO186 := AM (Kd.R_below (by exact HO186.out) hb); have BK188 := AM (hbox); have GW188 := AM (bt hg hS); have GE188 := AM (bt hg hS); replace HB := AM (below_step (hS) hb); have NB176_188 := AM (nl hg (bk BK176)); have NB188_176 := AM (ng hg (bk BK176)); replace BK176 := bw BK176 hb; have NB177_188 := AM (nl hg (bk BK177)); have NB188_177 := AM (ng hg (bk BK177)); replace BK177 := bw BK177 hb; have NB181_188 := AM (nl hg (bk BK181)); have NB188_181 := AM (ng hg (bk BK181)); replace BK181 := bw BK181 hb; have NB183_188 := AM (nl hg (bk BK183)); have NB188_183 := AM (ng hg (bk BK183)); replace BK183 := bw BK183 hb; clear hb hbox hg; obtain ⟨Ao30, co30, eo30⟩ := Kd.R_slice HO186.out; subst eo30; have hnb31 := NB188_176.out; have hnc31 := NB176_188.out; have hnb32 := NB188_177.out; have hnc32 := NB177_188.out; have hnb33 := NB188_181.out; have hnc33 := NB181_188.out; have hnb34 := NB188_183.out; have hnc34 := NB183_188.out; have hcz35_0 := bv BK188 0 (.slice none 0 0); have hfz35_0 := bz BK188 0; have hcz36_0 := bv BK181 0 (.slice Ao27 x182000_1.length co27); have hfz36_0 := bz BK181 0))
      go_roundg k1
      case measure => have := HK1.out; omega
      case rel => exact ⟨(wrap64 (x15_1 + 1)), (t184), (.slice Ao30 t184.length co30), sf, H', ⟨by have := HK1.out; omega⟩, ⟨by exact Kd.R_mono (Kd.R_far (p := ⟨gb181, 0, none⟩) (Kd.R_far (p := ⟨gb188, 0, none⟩) (Kd.R_types (Kd.R_types HO186.out BK188.out (by decide)) BK181.out (by decide)) (fun _ hk => hk.1.2) (.slice Ao30 t184.length co30)) (fun _ hk => hk.2) (.slice Ao30 t184.length co30)) (fun _ hk => trivial)⟩, ⟨be⟩, ⟨be⟩, ⟨bp #[.slice Ao27 x182000_1.length co27] 0⟩, ⟨hS⟩⟩
     replace c18 := Bool.eq_false_iff.mpr c18
     subst c18
     have H1 : (some (x182000_1, x15_1)) = some (r1, r2) := by rw [if_neg (show ¬ (false = true) by decide)] at H; exact H
     clear H
     have H := H1
     clear H1
     simp only [Option.some.injEq, Prod.mk.injEq] at H
     obtain ⟨rfl, rfl⟩ := H
     have p182 : 0 ≤ (x15_1 : Int) := od
     have q182 : x15_1 < (l1.length : Int) := od
     obtain ⟨ad182, e182, hx182_0, hx182_1, hx182_2, hx182_3⟩ := at_T41 HR1.out x15_1 p182 q182
     cases e182
     replace hx182_0 := cl HB hx182_0
     replace hx182_1 := cl HB hx182_1
     replace hx182_2 := cl HB hx182_2
     replace hx182_3 := cl HB hx182_3
     replace p182 := eq_true p182
     replace q182 := eq_true q182
     go_wp2_with (first | ((with_reducible refine gd 8 rfl ?_); refine bx (N := 8) (cs := #[.int .i64 0, .string (⟨#[]⟩ : ByteArray), .string (⟨#[]⟩ : ByteArray), .string (⟨#[]⟩ : ByteArray)]) (t := 41) ?_; intro gb183 hg w37 hbox hb; replace HO_182000 := AM (Kd.R_below (by exact HO_182000.out) hb); have BK183 := AM (hbox); have GW183 := AM (bt hg hS); have GE183 := AM (bt hg hS); replace HB := AM (below_step (hS) hb); have NB176_183 := AM (nl hg (bk BK176)); have NB183_176 := AM (ng hg (bk BK176)); replace BK176 := bw BK176 hb; have NB177_183 := AM (nl hg (bk BK177)); have NB183_177 := AM (ng hg (bk BK177)); replace BK177 := bw BK177 hb; have NB181_183 := AM (nl hg (bk BK181)); have NB183_181 := AM (ng hg (bk BK181)); replace BK181 := bw BK181 hb; clear hb hbox hg; have hnb38 := NB183_176.out; have hnc38 := NB176_183.out; have hnb39 := NB183_177.out; have hnc39 := NB177_183.out; have hnb40 := NB183_181.out; have hnc40 := NB181_183.out; have hcz41_0 := bv BK183 0 (.int .i64 0); have hcz41_1 := bv BK183 1 (.string (⟨#[]⟩ : ByteArray)); have hcz41_2 := bv BK183 2 (.string (⟨#[]⟩ : ByteArray)); have hcz41_3 := bv BK183 3 (.string (⟨#[]⟩ : ByteArray)); have hfz41_0 := bz BK183 0; have hfz41_1 := bz BK183 1; have hfz41_2 := bz BK183 2; have hfz41_3 := bz BK183 3; have hnb42 := NB181_176.out; have hnc42 := NB176_181.out; have hnb43 := NB181_177.out; have hnc43 := NB177_181.out; have hcz44_0 := bv BK181 0 (u182000); have hfz44_0 := bz BK181 0; obtain ⟨Ao45, co45, eo45⟩ := Kd.R_slice HO_182000.out; subst eo45) | ((with_reducible refine gc 19 rfl ?_); refine gl 23 Try.func19 #[.agg #[.slice Ao45 x182000_1.length co45], .agg #[.int .i64 ((rd_T41 l1 x15_1).f0), .string ((rd_T41 l1 x15_1).f1), .string ((rd_T41 l1 x15_1).f2), .string ((rd_T41 l1 x15_1).f3)]] ?_; (with_reducible refine (impl_DoAct.calls k1 _ _ x182000_1 ((rd_T41 l1 x15_1).f0) ((rd_T41 l1 x15_1).f1) ((rd_T41 l1 x15_1).f2) ((rd_T41 l1 x15_1).f3) t184 false _ ?side1 ?side2 A17.out).mono ?_); (case side1 => refine (Kd.R_reads' (e := 67) (base := w.heap.size) (ok := fun k_ => True) (n := x182000_1.length) (c := co45) ?_).2.2; exact (by exact (Kd.R_mono (Kd.R_far (p := ⟨gb183, 3, none⟩) (Kd.R_far (p := ⟨gb183, 2, none⟩) (Kd.R_far (p := ⟨gb183, 1, none⟩) (Kd.R_far (p := ⟨gb183, 0, none⟩) (Kd.R_types HO_182000.out BK183.out (by decide)) (fun _ hk => hk.2) (.int .i64 ((rd_T41 l1 x15_1).f0))) (fun _ hk => hk.2) (.string ((rd_T41 l1 x15_1).f1))) (fun _ hk => hk.2) (.string ((rd_T41 l1 x15_1).f2))) (fun _ hk => hk.2) (.string ((rd_T41 l1 x15_1).f3))) (fun _ h_ => h_.1)))); (case side2 => exact (Kd.R_reads' HO_182000.out).2.1); rintro e w46 ⟨v185, rfl, ho0, hb⟩; refine ⟨_, rfl, ?_⟩; have n0_ := AM (Kd.R_elder' (by exact (Kd.R_mono (Kd.R_far (p := ⟨gb183, 3, none⟩) (Kd.R_far (p := ⟨gb183, 2, none⟩) (Kd.R_far (p := ⟨gb183, 1, none⟩) (Kd.R_far (p := ⟨gb183, 0, none⟩) (Kd.R_types HO_182000.out BK183.out (by decide)) (fun _ hk => hk.2) (.int .i64 ((rd_T41 l1 x15_1).f0))) (fun _ hk => hk.2) (.string ((rd_T41 l1 x15_1).f1))) (fun _ hk => hk.2) (.string ((rd_T41 l1 x15_1).f2))) (fun _ hk => hk.2) (.string ((rd_T41 l1 x15_1).f3))) (fun _ h_ => h_.1))) (Kd.R_base ho0) hb); have n1_ := AM (Kd.R_lower (Kd.R_new' ho0 (Kd.R_lt (by exact (Kd.R_mono (Kd.R_far (p := ⟨gb183, 3, none⟩) (Kd.R_far (p := ⟨gb183, 2, none⟩) (Kd.R_far (p := ⟨gb183, 1, none⟩) (Kd.R_far (p := ⟨gb183, 0, none⟩) (Kd.R_types HO_182000.out BK183.out (by decide)) (fun _ hk => hk.2) (.int .i64 ((rd_T41 l1 x15_1).f0))) (fun _ hk => hk.2) (.string ((rd_T41 l1 x15_1).f1))) (fun _ hk => hk.2) (.string ((rd_T41 l1 x15_1).f2))) (fun _ hk => hk.2) (.string ((rd_T41 l1 x15_1).f3))) (fun _ h_ => h_.1))))) (below_size (hS))); have n2_ := AM (blk_below (g := gb176) (o := .cells #[.slice A0_0 l0_0.length c0_0] 30 (0, 0)) (be) hb); have n3_ := AM (blk_below (g := gb177) (o := .cells #[.slice none 0 0] 30 (0, 0)) (be) hb); have n4_ := AM (blk_below (g := gb181) (o := .cells #[.slice Ao45 x182000_1.length co45] 30 (0, 0)) (be) hb); have n5_ := AM (blk_below (g := gb183) (o := .cells #[.int .i64 ((rd_T41 l1 x15_1).f0), .string ((rd_T41 l1 x15_1).f1), .string ((rd_T41 l1 x15_1).f2), .string ((rd_T41 l1 x15_1).f3)] 41 (0, 0)) (by (with_reducible repeat first | apply aN | apply aD | apply aA); refine blk_put (cs := #[.int .i64 ((rd_T41 l1 x15_1).f0), .string ((rd_T41 l1 x15_1).f1), .string ((rd_T41 l1 x15_1).f2), .string (⟨#[]⟩ : ByteArray)]) ?_ 3 _ rfl; (with_reducible repeat first | apply aN | apply aD | apply aA); refine blk_put (cs := #[.int .i64 ((rd_T41 l1 x15_1).f0), .string ((rd_T41 l1 x15_1).f1), .string (⟨#[]⟩ : ByteArray), .string (⟨#[]⟩ : ByteArray)]) ?_ 2 _ rfl; (with_reducible repeat first | apply aN | apply aD | apply aA); refine blk_put (cs := #[.int .i64 ((rd_T41 l1 x15_1).f0), .string (⟨#[]⟩ : ByteArray), .string (⟨#[]⟩ : ByteArray), .string (⟨#[]⟩ : ByteArray)]) ?_ 1 _ rfl; (with_reducible repeat first | apply aN | apply aD | apply aA); refine blk_put (cs := #[.int .i64 0, .string (⟨#[]⟩ : ByteArray), .string (⟨#[]⟩ : ByteArray), .string (⟨#[]⟩ : ByteArray)]) ?_ 0 _ rfl; exact bk BK183) hb); have n6_ := AM (below_step (hS) hb); clear HO_182000; clear BK176; clear BK177; clear BK181; clear BK183; clear HB; have HO_182000 := n0_; have HO186 := n1_; have BK176 := n2_; have BK177 := n3_; have BK181 := n4_; have BK183 := n5_; have HB := n6_; clear n0_ n1_ n2_ n3_ n4_ n5_ n6_; (try clear hb); (try clear hk); (try clear ho0)) | ((with_reducible refine gd 9 rfl ?_); refine bx (N := 9) (cs := #[.slice none 0 0]) (t := 30) ?_; intro gb188 hg w47 hbox hb; replace HO_182000 := AM (Kd.R_below (by exact HO_182000.out) hb); replace HO186 := AM (Kd.R_below (by exact HO186.out) hb); have BK188 := AM (hbox); have GW188 := AM (bt hg hS); have GE188 := AM (bt hg hS); replace HB := AM (below_step (hS) hb); have NB176_188 := AM (nl hg (bk BK176)); have NB188_176 := AM (ng hg (bk BK176)); replace BK176 := bw BK176 hb; have NB177_188 := AM (nl hg (bk BK177)); have NB188_177 := AM (ng hg (bk BK177)); replace BK177 := bw BK177 hb; have NB181_188 := AM (nl hg (bk BK181)); have NB188_181 := AM (ng hg (bk BK181)); replace BK181 := bw BK181 hb; have NB183_188 := AM (nl hg (bk BK183)); have NB188_183 := AM (ng hg (bk BK183)); replace BK183 := bw BK183 hb; clear hb hbox hg; obtain ⟨Ao48, co48, eo48⟩ := Kd.R_slice HO186.out; subst eo48; have hnb49 := NB188_176.out; have hnc49 := NB176_188.out; have hnb50 := NB188_177.out; have hnc50 := NB177_188.out; have hnb51 := NB188_181.out; have hnc51 := NB181_188.out; have hnb52 := NB188_183.out; have hnc52 := NB183_188.out; have hcz53_0 := bv BK188 0 (.slice none 0 0); have hfz53_0 := bz BK188 0; have hcz54_0 := bv BK181 0 (.slice Ao45 x182000_1.length co45); have hfz54_0 := bz BK181 0; have hnb55 := NB177_176.out; have hnc55 := NB176_177.out; have hcz56_0 := bv BK177 0 (.slice none 0 0); have hfz56_0 := bz BK177 0))
     refine bodyPost_ret (results_ct rfl _ _ gb177 30 #[.slice Ao45 x182000_1.length co45] (0, 0) _ rfl (bp #[.slice none 0 0] 0) Try.underlying30 rfl (by kernel_rfl)) rfl ?_
     exact ⟨_, er, by exact Kd.R_mono (Kd.R_far (p := ⟨gb177, 0, none⟩) (Kd.R_far (p := ⟨gb188, 0, none⟩) (Kd.R_types (Kd.R_types HO_182000.out BK188.out (by decide)) BK177.out (by decide)) (fun _ hk => hk.1.2) (.slice Ao48 t184.length co48)) (fun _ hk => hk.2) (.slice Ao45 x182000_1.length co45)) (fun _ hk => trivial), hS⟩
    rw [if_neg c16] at H
    exact absurd H (by simp)
   rw [if_neg c15] at H
   exact absurd H (by simp)
  rw [if_neg c14] at H
  have c14b0 : decide (x15_1 < (l1.length : Int)) = false := decide_eq_false c14
  clear c14
  simp only [Option.some.injEq, Prod.mk.injEq] at H
  obtain ⟨rfl, rfl⟩ := H
  have hnb57 := NB181_176.out
  have hnc57 := NB176_181.out
  have hnb58 := NB181_177.out
  have hnc58 := NB177_181.out
  have hcz59_0 := bv BK181 0 (u182000)
  have hfz59_0 := bz BK181 0
  obtain ⟨Ao60, co60, eo60⟩ := Kd.R_slice HO_182000.out
  subst eo60
  have hnb61 := NB177_176.out
  have hnc61 := NB176_177.out
  have hcz62_0 := bv BK177 0 (.slice none 0 0)
  have hfz62_0 := bz BK177 0
  go_wp2
  refine bodyPost_ret (results_ct rfl _ _ gb177 30 #[.slice Ao60 x182000_1.length co60] (0, 0) _ rfl (bp #[.slice none 0 0] 0) Try.underlying30 rfl (by kernel_rfl)) rfl ?_
  exact ⟨_, er, by exact Kd.R_mono (Kd.R_far (p := ⟨gb177, 0, none⟩) (Kd.R_types HO_182000.out BK177.out (by decide)) (fun _ hk => hk.2) (.slice Ao60 x182000_1.length co60)) (fun _ hk => trivial), hS⟩

end Go.Proofs.Ytnkldnkolcighaa.XFnActs
