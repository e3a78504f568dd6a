/- What the functions of a law compute, and that their calls compute it: written by a program of this session (xprint.py), which turns the kit print at a few places. -/
import Derived.Test.YtnkldnkolcighaaXFnExactCutActsx0
import Derived.Test.YtnkldnkolcighaaXFnExactCutActsx8
namespace Go.Proofs.Ytnkldnkolcighaa.XFnExactCutActs
open Go.RowKit Go.Proofs.YtnkldnkolcighaaT.PrintWords Go.Proofs.YtnkldnkolcighaaT.PrintLast Go.Proofs.YtnkldnkolcighaaT.PrintMore
attribute [local go_sem] max2_int min2_int max_two min_two max_three min_three max_four min_four str_geq str_gtr   -- for this text's walks alone
set_option linter.unusedVariables false
set_option linter.unusedSimpArgs false

/-! ### spec_DoActs: function 23 -/
def spec_DoActs.l0 : Nat → List (S41) → Int → List (S67) → Option ((List (S67)) × Int)
 | 0, _, _, _ => none
 | k + 1, x1, x7, x242000 => if x7 < (x1.length : Int) then (if 0 ≤ x7 then ((spec_DoAct.f k x242000 ((rd_T41 x1 x7).f0) ((rd_T41 x1 x7).f1) ((rd_T41 x1 x7).f2) ((rd_T41 x1 x7).f3)).bind fun bt243 => (if bt243.2 = true then (spec_DoActs.l0 k x1 (wrap64 (x7 + 1)) bt243.1) else (some (x242000, x7)))) else (none)) else (some (x242000, (x1.length : Int)))
def spec_DoActs.f (k : Nat) (l0_0 : List (S67)) (l1 : List (S41)) : Option ((List (S67)) × Int) := (some (([] : List (S67)) : List (S67))).bind fun y235 => (if y235.length + l0_0.length < 3518437208883 then (spec_DoActs.l0 k l1 0 (y235 ++ l0_0)) else (none))
theorem spec_DoActs.mono_l : ∀ k, (∀ y0 y1 y2, LeO (spec_DoActs.l0 k y0 y1 y2) (spec_DoActs.l0 (k + 1) y0 y1 y2))
 | 0 => fun _ _ _ r h => by simp [spec_DoActs.l0] at h
 | k + 1 => by
  have ih0 := spec_DoActs.mono_l k
  intro y0 y1 y2
  unfold spec_DoActs.l0
  repeat' first
  | (with_reducible exact LeO.refl _)
  | (with_reducible refine LeO.ite ?_ ?_)
  | (with_reducible refine LeO.bind ?_ (fun _ => ?_))
  | exact ih0 _ _ _
  | exact spec_DoAct.mono _ _ _ _ _ _
  | exact LeO.none _
  | refine LeO.ite ?_ ?_
  | refine LeO.bind ?_ (fun _ => ?_)
theorem spec_DoActs.mono : ∀ a0 a1 k, LeO (spec_DoActs.f k a0 a1) (spec_DoActs.f (k + 1) a0 a1) := by
 intro a0 a1 k
 have ih0 := spec_DoActs.mono_l k
 unfold spec_DoActs.f
 repeat' first
   | (with_reducible exact LeO.refl _)
   | (with_reducible refine LeO.ite ?_ ?_)
   | (with_reducible refine LeO.bind ?_ (fun _ => ?_))
   | exact ih0 _ _ _
   | exact spec_DoAct.mono _ _ _ _ _ _
   | exact LeO.none _
   | refine LeO.ite ?_ ?_
   | refine LeO.bind ?_ (fun _ => ?_)
def spec_DoActs.T5 : Bool × List (List Nat × List Nat) := (true, [([], []), ([], []), ([], []), ([1, 2], [1, 2]), ([3], [3]), ([0, 4], [0, 4]), ([5], [5]), ([6], [6]), ([6], [6]), ([], []), ([9, 7, 5, 0, 1, 2, 3, 4, 5, 6, 7, 9], [7, 9]), ([8, 10, 0, 1, 2, 3, 4, 5, 6, 7, 8, 9, 10], [8])])
def spec_DoActs.B5 : List Nat := [0, 0, 0, 6, 14, 31, 63, 127, 127, 0, 767, 2047]
theorem spec_DoActs.tab5 : rtab .any (opsOf Try.f23 5) = spec_DoActs.T5 := by kernel_rfl
theorem spec_DoActs.bits5 : waitsOk spec_DoActs.T5.2 spec_DoActs.B5 = true := by kernel_rfl
set_option maxHeartbeats 8000000 in
set_option maxRecDepth 100000 in
theorem spec_DoActs.calls (k : Nat) (A0_0 : Option Addr) (c0_0 : Nat) (l0_0 : List (S67)) (A1 : Option Addr) (c1 : Nat) (l1 : List (S41)) (r1 : List (S67)) (r2 : Int) (w : World) (hr0_0 : Kd.C k67 w A0_0 l0_0.length l0_0) (hc0_0 : l0_0.length ≤ c0_0) (hr1 : Kd.C k41 w A1 l1.length l1) (hc1 : l1.length ≤ c1) (h : spec_DoActs.f k l0_0 l1 = some (r1, r2)) :
  Calls Try.prog 23 #[.agg #[.slice A0_0 l0_0.length c0_0], .slice A1 l1.length c1] w fun e w' => ∃ v0_ : Value, e = .returned (.tuple #[.agg #[v0_], .int .i64 r2]) ∧ Kd.R k67 67 w' w.heap.size (fun _ => True) v0_ r1 ∧ Below w.heap.size w w' := by
 have hu30 := Try.underlying30
 have hu41 := Try.underlying41
 have HR0_0 := AM hr0_0
 have HC0_0 := AM hc0_0
 clear hr0_0 hc0_0
 have HR1 := AM hr1
 have HC1 := AM hc1
 clear hr1 hc1
 have HB := AM (Below.refl w.heap.size w)
 have H : ((some (([] : List (S67)) : List (S67))).bind fun y235 => (if y235.length + l0_0.length < 3518437208883 then (spec_DoActs.l0 k l1 0 (y235 ++ l0_0)) else (none))) = some (r1, r2) := h
 clear h
 obtain ⟨y235, hy235⟩ : ∃ y_ : List (S67), y_ = (([] : List (S67))) := ⟨_, rfl⟩
 replace H : (if y235.length + l0_0.length < 3518437208883 then (spec_DoActs.l0 k l1 0 (y235 ++ l0_0)) else (none)) = some (r1, r2) := by first | (rw [hy235]; with_reducible exact H) | (have H2_ := (Option.bind_some _ _).symm.trans H; rw [hy235]; with_reducible exact H2_) | (have H2_ := (Option.bind_some _ _).symm.trans H; with_reducible exact H2_) | with_reducible exact H | (rw [hy235]; exact H) | exact H
 have Ny235 := AM hy235
 clear hy235
 by_cases c3 : y235.length + l0_0.length < 3518437208883
 ·rw [if_pos c3] at H
  have LMc3 := AM c3
  clear c3
  obtain ⟨y238, hy238⟩ : ∃ y_ : List (S67), y_ = (y235 ++ l0_0) := ⟨_, rfl⟩
  replace H : (spec_DoActs.l0 k l1 0 y238) = some (r1, r2) := by first | (rw [hy238]; with_reducible exact H) | (have H2_ := (Option.bind_some _ _).symm.trans H; rw [hy238]; with_reducible exact H2_) | (have H2_ := (Option.bind_some _ _).symm.trans H; with_reducible exact H2_) | with_reducible exact H | (rw [hy238]; exact H) | exact H
  have Ny238 := AM hy238
  clear hy238
  have H' := AM H
  clear H
  go_enter Try.func23, Try.ntmps23
  go_wp2_with (first | ((with_reducible refine gd 2 rfl ?_); refine bx (N := 2) (cs := #[.slice A0_0 l0_0.length c0_0]) (t := 30) ?_; intro gb233 hg w4 hbox hb; have BK233 := AM (hbox); have GW233 := AM (bs hg HB); have GE233 := AM (bs hg HB); replace HB := bq HB hb; clear hb hbox hg) | ((with_reducible refine gd 4 rfl ?_); refine bx (N := 4) (cs := #[.slice none 0 0]) (t := 30) ?_; intro gb234 hg w5 hbox hb; have BK234 := AM (hbox); have GW234 := AM (bt hg hS); have GE234 := AM (bt hg hS); replace HB := AM (below_step (hS) hb); have NB233_234 := AM (nl hg (bk BK233)); have NB234_233 := AM (ng hg (bk BK233)); replace BK233 := bw BK233 hb; clear hb hbox hg) | ((with_reducible refine gd 10 rfl ?_); refine Kd.R_lit k67 _ 67 ?hg (N := 10) ?hd (xs := ([] : List (S67))) (inner := []) (ok := fun _ => True) (okp := fun _ => True) ?hr ?hp (fun _ hk => hk) trivial (Below.refl _ _) (Nat.le_refl _) (by simp) ?_; (case hd => rfl); (case hg => rfl); (case hr => first | (go_simp; done) | (go_simp; rfl)); (case hp => exact (Reps.none _ _)); intro v236 w6 ho7 hb hg_ hnew_; clear hg_ hnew_; (first | rw [← Ny235.out] at ho7 | (simp only [Int.reduceToNat] at ho7; rw [← Ny235.out] at ho7)); have HO237 := AM (Kd.R_lower ho7 (below_size (hS))); replace BK233 := bw BK233 hb; replace BK234 := bw BK234 hb; replace HB := AM (below_step (hS) hb); clear hb ho7; have hnb8 := NB233_234.out; have hnc8 := NB234_233.out; have hcz9_0 := bv BK233 0 (.slice A0_0 l0_0.length c0_0); have hfz9_0 := bz BK233 0) | ((with_reducible refine gate_builtin (b := .append) (xs := #[.tmp 10, .tmp 12]) rfl ?_); at_builtin; refine Kd.R_append_rows k67 (w0 := w) w.heap.size rfl (.tmp 10) (.tmp 12) 28 67 (.agg #[(.string ⟨#[]⟩), (.string ⟨#[]⟩), (.int .i64 0)]) 40 rfl Try.underlying28 info67 rfl (by decide) (by omega) v236 y235 l0_0 _ _ _ (fun _ => True) (fun _ => False) rfl rfl ?aO ?aR (fun _ _ h => h) (fun _ h => h.elim) ?aF ?aB ?aS ?aL ?_; (case aR => repeat (first | exact (Kd.C_below HR0_0.out HB.out) | (with_reducible first | refine cA ?_ _ | refine cN ?_ _ | refine cD ?_))); (case aB => exact (hS)); (case aF => exact (fun _ _ => trivial)); (case aO => exact (by exact HO237.out)); (case aS => exact (below_size (hS))); (case aL => have := LMc3.out; omega); intro v239 w10 ho hb hg hat; rw [← Ny238.out] at ho; replace BK233 := AM (blk_grown (g := gb233) (o := .cells #[.slice A0_0 l0_0.length c0_0] 30 (0, 0)) (bk BK233) hg (Kd.R_ne HO237.out BK233.out (by decide))); replace BK234 := AM (blk_grown (g := gb234) (o := .cells #[.slice none 0 0] 30 (0, 0)) (bk BK234) hg (Kd.R_ne HO237.out BK234.out (by decide))); replace HB := AM (hb); have HO240 := AM (ho); clear HO237; clear ho hb hg hat; obtain ⟨Ao11, co11, eo11⟩ := Kd.R_slice HO240.out; subst eo11) | ((with_reducible refine gd 6 rfl ?_); refine bx (N := 6) (cs := #[.slice none 0 0]) (t := 30) ?_; intro gb241 hg w12 hbox hb; replace HO240 := AM (Kd.R_below (by exact HO240.out) hb); have BK241 := AM (hbox); have GW241 := AM (bt hg hS); have GE241 := AM (bt hg hS); replace HB := AM (below_step (hS) hb); have NB233_241 := AM (nl hg (bk BK233)); have NB241_233 := AM (ng hg (bk BK233)); replace BK233 := bw BK233 hb; have NB234_241 := AM (nl hg (bk BK234)); have NB241_234 := AM (ng hg (bk BK234)); replace BK234 := bw BK234 hb; clear hb hbox hg; have hnb13 := NB241_233.out; have hnc13 := NB233_241.out; have hnb14 := NB241_234.out; have hnc14 := NB234_241.out; have hcz15_0 := bv BK241 0 (.slice none 0 0); have hfz15_0 := bz BK241 0))
  go_loopg [7] k (fun kq v7 w' => ∃ (x7_1 : Int) (x242000_1 : List (S67)) (u242000 : Value), v7 = .int .i64 x7_1 ∧ Aside0 (spec_DoActs.l0 kq l1 x7_1 x242000_1 = some (r1, r2)) ∧ Aside0 (kq ≤ k) ∧ Aside0 (Kd.R k67 67 w' w.heap.size (fun _ => True) u242000 x242000_1) ∧ Aside0 (w'.heap[gb233]? = some (.cells #[(.slice A0_0 l0_0.length c0_0)] 30 (0, 0))) ∧ Aside0 (w'.heap[gb234]? = some (.cells #[(.slice none 0 0)] 30 (0, 0))) ∧ Aside0 (w'.heap[gb241]? = some (.cells #[u242000] 30 (0, 0))) ∧ Aside0 (Below w.heap.size w w'))
  case atStart => exact ⟨(0), (y238), (.slice Ao11 y238.length co11), sf, H', ⟨Nat.le_refl _⟩, ⟨by exact Kd.R_mono (Kd.R_far (p := ⟨gb241, 0, none⟩) (Kd.R_types HO240.out BK241.out (by decide)) (fun _ hk => hk.2) (.slice Ao11 y238.length co11)) (fun _ hk => trivial)⟩, ⟨be⟩, ⟨be⟩, ⟨by (with_reducible repeat first | apply aN | apply aD | apply aA); refine blk_put (cs := #[.slice none 0 0]) ?_ 0 _ rfl; exact bk BK241⟩, ⟨hS⟩⟩
  clear H'
  obtain ⟨x7_1, x242000_1, u242000, rfl, HA, HK1, HO_242000, BK233, BK234, BK241, HB⟩ := hrel
  cases gk with
  | zero => exact absurd HA.out (by simp [spec_DoActs.l0])
  | succ k1 =>
   have H := HA.out
   clear HA
   simp only [spec_DoActs.l0] at H
   by_cases c16 : x7_1 < (l1.length : Int)
   ·rw [if_pos c16] at H
    have c16b0 : decide (x7_1 < (l1.length : Int)) = true := decide_eq_true c16
    clear c16
    by_cases c17 : 0 ≤ x7_1
    ·rw [if_pos c17] at H
     have c17b0 : decide (0 ≤ x7_1) = true := decide_eq_true c17
     clear c17
     replace H := bm H
     obtain ⟨⟨t243, t246⟩, A180, H⟩ := H
     replace H : (if t246 = true then (spec_DoActs.l0 k1 l1 (wrap64 (x7_1 + 1)) t243) else (some (x242000_1, x7_1))) = some (r1, r2) := H
     have A18 := AM A180
     clear A180
     by_cases c19 : t246 = true
     ·subst c19
      have H1 : (spec_DoActs.l0 k1 l1 (wrap64 (x7_1 + 1)) t243) = some (r1, r2) := by rw [if_pos rfl] at H; exact H
      clear H
      have H := H1
      clear H1
      have H' := AM H
      clear H
      obtain ⟨Ao20, co20, eo20⟩ := Kd.R_slice HO_242000.out
      subst eo20
      try go_wp2
      replace HO_242000 := AM (Kd.R_drew HO_242000.out)
      replace BK233 := AM (blk_drew BK233.out)
      replace BK234 := AM (blk_drew BK234.out)
      replace BK241 := AM (blk_drew BK241.out)
      replace HB := AM (below_drew1 HB.out)
      have p242 : 0 ≤ (x7_1 : Int) := od
      have q242 : x7_1 < (l1.length : Int) := od
      obtain ⟨ad242, e242, hx242_0, hx242_1, hx242_2, hx242_3⟩ := at_T41 HR1.out x7_1 p242 q242
      have hw242_3 := hx242_3
      have hw242_2 := hx242_2
      have hw242_1 := hx242_1
      have hw242_0 := hx242_0
      cases e242
      replace hx242_0 := cl HB hx242_0
      replace hx242_1 := cl HB hx242_1
      replace hx242_2 := cl HB hx242_2
      replace hx242_3 := cl HB hx242_3
      replace p242 := eq_true p242
      replace q242 := eq_true q242
      refine start_ (n := 12) (S := fun w' => w'.cell? ⟨gb241, 0, none⟩ = some (.slice Ao20 x242000_1.length co20) ∧ w'.cell? (ad242.add ((x7_1).toNat * 4)) = some (.int .i64 ((rd_T41 l1 x7_1).f0)) ∧ w'.cell? ⟨(ad242.add ((x7_1).toNat * 4)).block, (ad242.add ((x7_1).toNat * 4)).off + 1, none⟩ = some (.string ((rd_T41 l1 x7_1).f1)) ∧ w'.cell? ⟨(ad242.add ((x7_1).toNat * 4)).block, (ad242.add ((x7_1).toNat * 4)).off + 2, none⟩ = some (.string ((rd_T41 l1 x7_1).f2)) ∧ w'.cell? ⟨(ad242.add ((x7_1).toNat * 4)).block, (ad242.add ((x7_1).toNat * 4)).off + 3, none⟩ = some (.string ((rd_T41 l1 x7_1).f3))) (ds := []) #[false, false, false, false, false, false, false, false, false, false, false, false] (by kernel_rfl) rfl rfl ⟨bc BK241 0, (cl HB hw242_0), (cl HB hw242_1), (cl HB hw242_2), (cl HB hw242_3)⟩ (fun hHeld => ?_); refine with_tabW spec_DoActs.tab5 spec_DoActs.bits5 (fun HT_ HW_ => ?_)
      generalize wr.drew = w21 at HO_242000 BK233 BK234 BK241 HB hx242_0 hx242_1 hx242_2 hx242_3 hHeld ⊢
      refine pure_ (i := 1) (N := some 23) (v := ?_) (a' := ?_) #[false, true, false, false, false, false, false, false, false, false, false, false] rfl rfl (any_of HT_.out (by kernel_rfl)) (fun _ _ _ h => h) (Or.inl ⟨by rfl, ?_⟩) ?_ ?_
      rotate_left
      ·intro w'
       go_simp
       with_reducible rfl
      rotate_left
      ·simp only [Act.put, qT, q0, qS, i64_w, i32_w]
       rfl
      refine pure_ (i := 2) (N := some 24) (v := ?_) (a' := ?_) #[false, true, true, false, false, false, false, false, false, false, false, false] rfl rfl (any_of HT_.out (by kernel_rfl)) (fun _ _ _ h => h) (Or.inl ⟨by rfl, ?_⟩) ?_ ?_
      rotate_left
      ·intro w'
       go_simp
       with_reducible rfl
      rotate_left
      ·simp only [Act.put, qT, q0, qS, i64_w, i32_w]
       rfl
      refine pure_ (i := 3) (N := some 25) (v := ?_) (a' := ?_) #[false, true, true, true, false, false, false, false, false, false, false, false] rfl rfl (any_of HT_.out (by kernel_rfl)) (fun _ _ _ h => h) (Or.inl ⟨by rfl, ?_⟩) ?_ ?_
      rotate_left
      ·intro w'
       go_simp
       with_reducible rfl
      rotate_left
      ·simp only [Act.put, qT, q0, qS, i64_w, i32_w]
       rfl
      refine take_ (i := 0) (N := some 22) (v := ?_) (a' := ?_) #[true, true, true, true, false, false, false, false, false, false, false, false] rfl rfl (take_ofW HT_.out HW_.out (by kernel_rfl)) (fun _ _ _ h => h) (Or.inl ⟨by rfl, ?_⟩) hHeld ?_ ?_
      rotate_left
      ·rintro w' ⟨s0, s1, s2, s3, s4⟩
       go_simp
       with_reducible rfl
      rotate_left
      ·simp only [Act.put, qT, q0, qS, i64_w, i32_w]
       rfl
      refine take_ (i := 4) (N := some 26) (v := ?_) (a' := ?_) #[true, true, true, true, true, false, false, false, false, false, false, false] rfl rfl (take_ofW HT_.out HW_.out (by kernel_rfl)) (fun _ _ _ h => h) (Or.inl ⟨by rfl, ?_⟩) hHeld ?_ ?_
      rotate_left
      ·rintro w' ⟨s0, s1, s2, s3, s4⟩
       go_simp
       with_reducible rfl
      rotate_left
      ·simp only [Act.put, qT, q0, qS, i64_w, i32_w]
       rfl
      refine join_ (σ := Value × Nat) 2 #[true, true, true, true, true, true, true, true, true, true, false, false] (fun s_ => [(27, .tuple #[.agg #[s_.1], .bool true]), (8, .pointer (some ⟨s_.2, 0, none⟩)), (21, .tuple #[.agg #[s_.1], .bool true]), (28, .agg #[s_.1]), (29, .bool true)]) (fun s_ w' => (w'.cell? ⟨gb241, 0, none⟩ = some (.slice Ao20 x242000_1.length co20) ∧ w'.cell? (ad242.add ((x7_1).toNat * 4)) = some (.int .i64 ((rd_T41 l1 x7_1).f0)) ∧ w'.cell? ⟨(ad242.add ((x7_1).toNat * 4)).block, (ad242.add ((x7_1).toNat * 4)).off + 1, none⟩ = some (.string ((rd_T41 l1 x7_1).f1)) ∧ w'.cell? ⟨(ad242.add ((x7_1).toNat * 4)).block, (ad242.add ((x7_1).toNat * 4)).off + 2, none⟩ = some (.string ((rd_T41 l1 x7_1).f2)) ∧ w'.cell? ⟨(ad242.add ((x7_1).toNat * 4)).block, (ad242.add ((x7_1).toNat * 4)).off + 3, none⟩ = some (.string ((rd_T41 l1 x7_1).f3))) ∧ (Kd.R k67 67 w' w.heap.size (fun k_ => some k_ ≠ (.slice Ao20 x242000_1.length co20 : Value).ownBlock) s_.1 t243) ∧ (Kd.R k67 67 w' w.heap.size (fun k_ => some k_ ≠ (s_.1 : Value).ownBlock) (.slice Ao20 x242000_1.length co20) x242000_1) ∧ (w'.heap[gb233]? = some (.cells #[.slice A0_0 l0_0.length c0_0] 30 (0, 0))) ∧ (w'.heap[gb234]? = some (.cells #[.slice none 0 0] 30 (0, 0))) ∧ (w'.heap[gb241]? = some (.cells #[.slice Ao20 x242000_1.length co20] 30 (0, 0))) ∧ (w'.heap[s_.2]? = some (.cells #[.slice none 0 0] 30 (0, 0))) ∧ (w.heap.size ≤ s_.2) ∧ (w.heap.size ≤ s_.2) ∧ (gb233 ≠ s_.2) ∧ (s_.2 ≠ gb233) ∧ (gb234 ≠ s_.2) ∧ (s_.2 ≠ gb234) ∧ (gb241 ≠ s_.2) ∧ (s_.2 ≠ gb241) ∧ (Below w.heap.size w w')) ?_ ?_
      rotate_left
      ·intro hCont
       refine two_ (i := 5) (j := 9) (Ni := some 27) (Nj := some 8) #[true, true, true, true, true, true, false, false, false, false, false, false] #[true, true, true, true, true, false, false, false, false, true, false, false] rfl rfl rfl rfl (two_of HT_.out (by kernel_rfl)) (by decide) (by decide) (fun K hK => ?_) (fun K hK => ?_)
       ·skip
        refine goes_ Try.func17 (by kernel_rfl) rfl #[.agg #[.slice Ao20 x242000_1.length co20], .agg #[.int .i64 ((rd_T41 l1 x7_1).f0), .string ((rd_T41 l1 x7_1).f1), .string ((rd_T41 l1 x7_1).f2), .string ((rd_T41 l1 x7_1).f3)]] (by rfl) rfl rfl am ?_
        with_reducible refine (spec_DoAct.calls k1 _ _ x242000_1 ((rd_T41 l1 x7_1).f0) ((rd_T41 l1 x7_1).f1) ((rd_T41 l1 x7_1).f2) ((rd_T41 l1 x7_1).f3) t243 true _ ?side1 ?side2 A18.out).mono ?_
        (case side1 => repeat (first | exact (Kd.R_reads' HO_242000.out).2.2 | (with_reducible first | refine cA ?_ _ | refine cN ?_ _ | refine cD ?_)))
        (case side2 => exact (Kd.R_reads' HO_242000.out).2.1)
        rintro e w22 ⟨v244, rfl, ho0, hb⟩
        refine ⟨_, rfl, ?_⟩
        have HO245 := AM (Kd.R_lower (Kd.R_new' ho0 (Kd.R_lt (by exact HO_242000.out))) (below_size (hS)))
        replace HO_242000 := AM (Kd.R_elder' (by exact HO_242000.out) (Kd.R_base ho0) hb)
        replace BK233 := bw BK233 hb
        replace BK234 := bw BK234 hb
        replace BK241 := bw BK241 hb
        replace HB := AM (below_step (hS) hb)
        (try clear hb)
        (try clear hb2)
        (try clear hk)
        (try clear hi)
        (try clear ho0)
        refine hK.out _ _ ⟨bc BK241 0, (cl HB hw242_0), (cl HB hw242_1), (cl HB hw242_2), (cl HB hw242_3)⟩ (fun hHeld => ?_)
        clear hK K
        refine norm_ (a' := ?_) ?_ ?_
        rotate_left
        ·show Act.put _ (some 27) _ = _
         simp only [Act.put, qT, q0, qS, i64_w, i32_w]
         rfl
        refine pure_ (i := 6) (N := some 21) (v := ?_) (a' := ?_) #[true, true, true, true, true, true, true, false, false, false, false, false] rfl rfl (any_of HT_.out (by kernel_rfl)) (fun _ _ _ h => h) (Or.inl ⟨by rfl, ?_⟩) ?_ ?_
        rotate_left
        ·intro w'
         go_simp
         with_reducible rfl
        rotate_left
        ·simp only [Act.put, qT, q0, qS, i64_w, i32_w]
         rfl
        refine pure_ (i := 7) (N := some 28) (v := ?_) (a' := ?_) #[true, true, true, true, true, true, true, true, false, false, false, false] rfl rfl (any_of HT_.out (by kernel_rfl)) (fun _ _ _ h => h) (Or.inl ⟨by rfl, ?_⟩) ?_ ?_
        rotate_left
        ·intro w'
         go_simp
         with_reducible rfl
        rotate_left
        ·simp only [Act.put, qT, q0, qS, i64_w, i32_w]
         rfl
        refine pure_ (i := 8) (N := some 29) (v := ?_) (a' := ?_) #[true, true, true, true, true, true, true, true, true, false, false, false] rfl rfl (any_of HT_.out (by kernel_rfl)) (fun _ _ _ h => h) (Or.inl ⟨by rfl, ?_⟩) ?_ ?_
        rotate_left
        ·intro w'
         go_simp
         with_reducible rfl
        rotate_left
        ·simp only [Act.put, qT, q0, qS, i64_w, i32_w]
         rfl
        refine one_ (i := 9) (N := some 8) #[true, true, true, true, true, true, true, true, true, true, false, false] rfl rfl (one_of HT_.out (by kernel_rfl)) (by decide) (fun K hK => ?_)
        refine box_step ?hg (N := 8) ?hd (cs := #[.slice none 0 0]) (t := 30) ?hr ?_; (case hd => rfl); (case hg => rfl); (case hr => first | (go_simp; done) | (go_simp; rfl))
        intro gb247 hg w23 hbox hb
        replace HO_242000 := AM (Kd.R_below (by exact HO_242000.out) hb)
        replace HO245 := AM (Kd.R_below (by exact HO245.out) hb)
        have BK247 := AM (hbox)
        have GW247 := AM (bt hg hS)
        have GE247 := AM (bt hg hS)
        replace HB := AM (below_step (hS) hb)
        have NB233_247 := AM (nl hg (bk BK233))
        have NB247_233 := AM (ng hg (bk BK233))
        replace BK233 := bw BK233 hb
        have NB234_247 := AM (nl hg (bk BK234))
        have NB247_234 := AM (ng hg (bk BK234))
        replace BK234 := bw BK234 hb
        have NB241_247 := AM (nl hg (bk BK241))
        have NB247_241 := AM (ng hg (bk BK241))
        replace BK241 := bw BK241 hb
        clear hb hbox hg
        refine hK.out _ _ ⟨bc BK241 0, (cl HB hw242_0), (cl HB hw242_1), (cl HB hw242_2), (cl HB hw242_3)⟩ (fun hHeld => ?_)
        clear hK K
        refine norm_ (a' := ?_) ?_ ?_
        rotate_left
        ·show Act.put _ (some 8) _ = _
         simp only [Act.put, qT, q0, qS, i64_w, i32_w]
         rfl
        exact norm_ (by simp only [putAll, Act.put, qT, q0, qS]) (hCont (v244, gb247) _ ⟨hHeld, (by exact Kd.R_mono HO245.out (fun _ hk => hk.2)), (by exact Kd.R_mono HO_242000.out (fun _ hk => hk.2)), (bk BK233), (bk BK234), (bk BK241), (bk BK247), GW247.out, GE247.out, NB233_247.out, NB247_233.out, NB234_247.out, NB247_234.out, NB241_247.out, NB247_241.out, (hS)⟩)
       skip
       refine box_step ?hg (N := 8) ?hd (cs := #[.slice none 0 0]) (t := 30) ?hr ?_; (case hd => rfl); (case hg => rfl); (case hr => first | (go_simp; done) | (go_simp; rfl))
       intro gb247 hg w22 hbox hb
       replace HO_242000 := AM (Kd.R_below (by exact HO_242000.out) hb)
       have BK247 := AM (hbox)
       have GW247 := AM (bt hg hS)
       have GE247 := AM (bt hg hS)
       replace HB := AM (below_step (hS) hb)
       have NB233_247 := AM (nl hg (bk BK233))
       have NB247_233 := AM (ng hg (bk BK233))
       replace BK233 := bw BK233 hb
       have NB234_247 := AM (nl hg (bk BK234))
       have NB247_234 := AM (ng hg (bk BK234))
       replace BK234 := bw BK234 hb
       have NB241_247 := AM (nl hg (bk BK241))
       have NB247_241 := AM (ng hg (bk BK241))
       replace BK241 := bw BK241 hb
       clear hb hbox hg
       refine hK.out _ _ ⟨bc BK241 0, (cl HB hw242_0), (cl HB hw242_1), (cl HB hw242_2), (cl HB hw242_3)⟩ (fun hHeld => ?_)
       clear hK K
       refine norm_ (a' := ?_) ?_ ?_
       rotate_left
       ·show Act.put _ (some 8) _ = _
        simp only [Act.put, qT, q0, qS, i64_w, i32_w]
        rfl
       refine one_ (i := 5) (N := some 27) #[true, true, true, true, true, true, false, false, false, true, false, false] rfl rfl (one_of HT_.out (by kernel_rfl)) (by decide) (fun K hK => ?_)
       refine goes_ Try.func17 (by kernel_rfl) rfl #[.agg #[.slice Ao20 x242000_1.length co20], .agg #[.int .i64 ((rd_T41 l1 x7_1).f0), .string ((rd_T41 l1 x7_1).f1), .string ((rd_T41 l1 x7_1).f2), .string ((rd_T41 l1 x7_1).f3)]] (by rfl) rfl rfl am ?_
       with_reducible refine (spec_DoAct.calls k1 _ _ x242000_1 ((rd_T41 l1 x7_1).f0) ((rd_T41 l1 x7_1).f1) ((rd_T41 l1 x7_1).f2) ((rd_T41 l1 x7_1).f3) t243 true _ ?side1 ?side2 A18.out).mono ?_
       (case side1 => repeat (first | exact (Kd.R_reads' HO_242000.out).2.2 | (with_reducible first | refine cA ?_ _ | refine cN ?_ _ | refine cD ?_)))
       (case side2 => exact (Kd.R_reads' HO_242000.out).2.1)
       rintro e w23 ⟨v244, rfl, ho0, hb⟩
       refine ⟨_, rfl, ?_⟩
       have HO245 := AM (Kd.R_lower (Kd.R_new' ho0 (Kd.R_lt (by exact HO_242000.out))) (below_size (hS)))
       replace HO_242000 := AM (Kd.R_elder' (by exact HO_242000.out) (Kd.R_base ho0) hb)
       replace BK233 := bw BK233 hb
       replace BK234 := bw BK234 hb
       replace BK241 := bw BK241 hb
       replace BK247 := bw BK247 hb
       replace HB := AM (below_step (hS) hb)
       (try clear hb)
       (try clear hb2)
       (try clear hk)
       (try clear hi)
       (try clear ho0)
       refine hK.out _ _ ⟨bc BK241 0, (cl HB hw242_0), (cl HB hw242_1), (cl HB hw242_2), (cl HB hw242_3)⟩ (fun hHeld => ?_)
       clear hK K
       refine norm_ (a' := ?_) ?_ ?_
       rotate_left
       ·show Act.put _ (some 27) _ = _
        simp only [Act.put, qT, q0, qS, i64_w, i32_w]
        rfl
       refine pure_ (i := 6) (N := some 21) (v := ?_) (a' := ?_) #[true, true, true, true, true, true, true, false, false, true, false, false] rfl rfl (any_of HT_.out (by kernel_rfl)) (fun _ _ _ h => h) (Or.inl ⟨by rfl, ?_⟩) ?_ ?_
       rotate_left
       ·intro w'
        go_simp
        with_reducible rfl
       rotate_left
       ·simp only [Act.put, qT, q0, qS, i64_w, i32_w]
        rfl
       refine pure_ (i := 7) (N := some 28) (v := ?_) (a' := ?_) #[true, true, true, true, true, true, true, true, false, true, false, false] rfl rfl (any_of HT_.out (by kernel_rfl)) (fun _ _ _ h => h) (Or.inl ⟨by rfl, ?_⟩) ?_ ?_
       rotate_left
       ·intro w'
        go_simp
        with_reducible rfl
       rotate_left
       ·simp only [Act.put, qT, q0, qS, i64_w, i32_w]
        rfl
       refine pure_ (i := 8) (N := some 29) (v := ?_) (a' := ?_) #[true, true, true, true, true, true, true, true, true, true, false, false] rfl rfl (any_of HT_.out (by kernel_rfl)) (fun _ _ _ h => h) (Or.inl ⟨by rfl, ?_⟩) ?_ ?_
       rotate_left
       ·intro w'
        go_simp
        with_reducible rfl
       rotate_left
       ·simp only [Act.put, qT, q0, qS, i64_w, i32_w]
        rfl
       exact norm_ (by simp only [putAll, Act.put, qT, q0, qS]) (hCont (v244, gb247) _ ⟨hHeld, (by exact Kd.R_mono HO245.out (fun _ hk => hk.2)), (by exact Kd.R_mono HO_242000.out (fun _ hk => hk.2)), (bk BK233), (bk BK234), (bk BK241), (bk BK247), GW247.out, GE247.out, NB233_247.out, NB247_233.out, NB234_247.out, NB247_234.out, NB241_247.out, NB247_241.out, (hS)⟩)
      rintro ⟨v244, gb247⟩ w24 ⟨hS_, h0_, h1_, h2_, h3_, h4_, h5_, h6_, h7_, h8_, h9_, h10_, h11_, h12_, h13_, h14_⟩
      have n0_ : Aside0 (Kd.R k67 67 w24 w.heap.size (fun k_ => some k_ ≠ (.slice Ao20 x242000_1.length co20 : Value).ownBlock) v244 t243) := ⟨h0_⟩
      have n1_ : Aside0 (Kd.R k67 67 w24 w.heap.size (fun k_ => some k_ ≠ (v244 : Value).ownBlock) (.slice Ao20 x242000_1.length co20) x242000_1) := ⟨h1_⟩
      have n2_ : Aside0 (w24.heap[gb233]? = some (.cells #[.slice A0_0 l0_0.length c0_0] 30 (0, 0))) := ⟨h2_⟩
      have n3_ : Aside0 (w24.heap[gb234]? = some (.cells #[.slice none 0 0] 30 (0, 0))) := ⟨h3_⟩
      have n4_ : Aside0 (w24.heap[gb241]? = some (.cells #[.slice Ao20 x242000_1.length co20] 30 (0, 0))) := ⟨h4_⟩
      have n5_ : Aside0 (w24.heap[gb247]? = some (.cells #[.slice none 0 0] 30 (0, 0))) := ⟨h5_⟩
      have n6_ : Aside0 (w.heap.size ≤ gb247) := ⟨h6_⟩
      have n7_ : Aside0 (w.heap.size ≤ gb247) := ⟨h7_⟩
      have n8_ : Aside0 (gb233 ≠ gb247) := ⟨h8_⟩
      have n9_ : Aside0 (gb247 ≠ gb233) := ⟨h9_⟩
      have n10_ : Aside0 (gb234 ≠ gb247) := ⟨h10_⟩
      have n11_ : Aside0 (gb247 ≠ gb234) := ⟨h11_⟩
      have n12_ : Aside0 (gb241 ≠ gb247) := ⟨h12_⟩
      have n13_ : Aside0 (gb247 ≠ gb241) := ⟨h13_⟩
      have n14_ : Aside0 (Below w.heap.size w w24) := ⟨h14_⟩
      clear HO_242000
      clear BK233
      clear BK234
      clear BK241
      clear HB
      clear h0_ h1_ h2_ h3_ h4_ h5_ h6_ h7_ h8_ h9_ h10_ h11_ h12_ h13_ h14_
      have HO245 := n0_
      have HO_242000 := n1_
      have BK233 := n2_
      have BK234 := n3_
      have BK241 := n4_
      have BK247 := n5_
      have GW247 := n6_
      have GE247 := n7_
      have NB233_247 := n8_
      have NB247_233 := n9_
      have NB234_247 := n10_
      have NB247_234 := n11_
      have NB241_247 := n12_
      have NB247_241 := n13_
      have HB := n14_
      clear n0_ n1_ n2_ n3_ n4_ n5_ n6_ n7_ n8_ n9_ n10_ n11_ n12_ n13_ n14_
      have hHeld : w24.cell? ⟨gb241, 0, none⟩ = some (.slice Ao20 x242000_1.length co20) ∧ w24.cell? (ad242.add ((x7_1).toNat * 4)) = some (.int .i64 ((rd_T41 l1 x7_1).f0)) ∧ w24.cell? ⟨(ad242.add ((x7_1).toNat * 4)).block, (ad242.add ((x7_1).toNat * 4)).off + 1, none⟩ = some (.string ((rd_T41 l1 x7_1).f1)) ∧ w24.cell? ⟨(ad242.add ((x7_1).toNat * 4)).block, (ad242.add ((x7_1).toNat * 4)).off + 2, none⟩ = some (.string ((rd_T41 l1 x7_1).f2)) ∧ w24.cell? ⟨(ad242.add ((x7_1).toNat * 4)).block, (ad242.add ((x7_1).toNat * 4)).off + 3, none⟩ = some (.string ((rd_T41 l1 x7_1).f3)) := hS_
      obtain ⟨Ao25, co25, eo25⟩ := Kd.R_slice HO245.out
      (first | subst eo25 | (injection eo25 with f1_ f2_ f3_; have f4_ := f1_.symm; have f5_ := f3_.symm; clear f1_ f2_ f3_; subst f4_; subst f5_))
      refine norm_ (a' := ?_) ?_ ?_
      rotate_left
      ·simp only [putAll, Act.put, qT, q0, qS]
       rfl
      refine one_ (i := 10) (N := none) #[true, true, true, true, true, true, true, true, true, true, true, false] rfl rfl (one_of HT_.out (by kernel_rfl)) (by decide) (fun K hK => ?_)
      have hs26 : w24.cell? ⟨gb247, 0, none⟩ = some (.slice none 0 0) := bc BK247 0
      have hfs26 := bz BK247 0
      have hns26_0 := NB233_247.out
      have hns26_1 := NB234_247.out
      have hns26_2 := NB241_247.out
      have hms26_0 := NB247_233.out
      have hms26_1 := NB247_234.out
      have hms26_2 := NB247_241.out
      refine skip_ (w1 := ?_) (by rfl) rfl ?_ ?_
      rotate_left
      ·go_simp
       rfl
      refine hK.out _ _ ⟨((cell_far (p := ⟨gb247, _, none⟩) NB241_247.out _).trans (hHeld.1)), ((cell_far (p := ⟨gb247, _, none⟩) (by first | exact Nat.ne_of_lt (Nat.lt_of_lt_of_le (by have := World.block_lt_of_cell? _ _ hw242_0; first | rwa [add_block] at this | exact this) GW247.out) | (rw [add_block]; exact Nat.ne_of_lt (Nat.lt_of_lt_of_le (by have := World.block_lt_of_cell? _ _ hw242_0; first | rwa [add_block] at this | exact this) GW247.out)) | (show (Addr.add _ _).block ≠ _; rw [add_block]; exact Nat.ne_of_lt (Nat.lt_of_lt_of_le (by have := World.block_lt_of_cell? _ _ hw242_0; first | rwa [add_block] at this | exact this) GW247.out)) | (dsimp only; exact Nat.ne_of_lt (Nat.lt_of_lt_of_le (by have := World.block_lt_of_cell? _ _ hw242_0; first | rwa [add_block] at this | exact this) GW247.out))) _).trans (hHeld.2.1)), ((cell_far (p := ⟨gb247, _, none⟩) (by first | exact Nat.ne_of_lt (Nat.lt_of_lt_of_le (by have := World.block_lt_of_cell? _ _ hw242_1; first | rwa [add_block] at this | exact this) GW247.out) | (rw [add_block]; exact Nat.ne_of_lt (Nat.lt_of_lt_of_le (by have := World.block_lt_of_cell? _ _ hw242_1; first | rwa [add_block] at this | exact this) GW247.out)) | (show (Addr.add _ _).block ≠ _; rw [add_block]; exact Nat.ne_of_lt (Nat.lt_of_lt_of_le (by have := World.block_lt_of_cell? _ _ hw242_1; first | rwa [add_block] at this | exact this) GW247.out)) | (dsimp only; exact Nat.ne_of_lt (Nat.lt_of_lt_of_le (by have := World.block_lt_of_cell? _ _ hw242_1; first | rwa [add_block] at this | exact this) GW247.out))) _).trans (hHeld.2.2.1)), ((cell_far (p := ⟨gb247, _, none⟩) (by first | exact Nat.ne_of_lt (Nat.lt_of_lt_of_le (by have := World.block_lt_of_cell? _ _ hw242_2; first | rwa [add_block] at this | exact this) GW247.out) | (rw [add_block]; exact Nat.ne_of_lt (Nat.lt_of_lt_of_le (by have := World.block_lt_of_cell? _ _ hw242_2; first | rwa [add_block] at this | exact this) GW247.out)) | (show (Addr.add _ _).block ≠ _; rw [add_block]; exact Nat.ne_of_lt (Nat.lt_of_lt_of_le (by have := World.block_lt_of_cell? _ _ hw242_2; first | rwa [add_block] at this | exact this) GW247.out)) | (dsimp only; exact Nat.ne_of_lt (Nat.lt_of_lt_of_le (by have := World.block_lt_of_cell? _ _ hw242_2; first | rwa [add_block] at this | exact this) GW247.out))) _).trans (hHeld.2.2.2.1)), ((cell_far (p := ⟨gb247, _, none⟩) (by first | exact Nat.ne_of_lt (Nat.lt_of_lt_of_le (by have := World.block_lt_of_cell? _ _ hw242_3; first | rwa [add_block] at this | exact this) GW247.out) | (rw [add_block]; exact Nat.ne_of_lt (Nat.lt_of_lt_of_le (by have := World.block_lt_of_cell? _ _ hw242_3; first | rwa [add_block] at this | exact this) GW247.out)) | (show (Addr.add _ _).block ≠ _; rw [add_block]; exact Nat.ne_of_lt (Nat.lt_of_lt_of_le (by have := World.block_lt_of_cell? _ _ hw242_3; first | rwa [add_block] at this | exact this) GW247.out)) | (dsimp only; exact Nat.ne_of_lt (Nat.lt_of_lt_of_le (by have := World.block_lt_of_cell? _ _ hw242_3; first | rwa [add_block] at this | exact this) GW247.out))) _).trans (hHeld.2.2.2.2))⟩ (fun hHeld => ?_)
      clear hK K
      refine pure_ (i := 11) (N := some 9) (v := ?_) (a' := ?_) #[true, true, true, true, true, true, true, true, true, true, true, true] rfl rfl (any_of HT_.out (by kernel_rfl)) (fun _ _ _ h => h) (Or.inl ⟨by rfl, ?_⟩) ?_ ?_
      rotate_left
      ·intro w'
       go_simp
       with_reducible rfl
      rotate_left
      ·simp only [Act.put, qT, q0, qS, i64_w, i32_w]
       rfl
      refine done_ (done_of HT_.out (by kernel_rfl)) ?_
      have hnb27 := NB247_233.out
      have hnc27 := NB233_247.out
      have hnb28 := NB247_234.out
      have hnc28 := NB234_247.out
      have hnb29 := NB247_241.out
      have hnc29 := NB241_247.out
      have hcz30_0 := bv BK247 0 (.slice none 0 0)
      have hfz30_0 := bz BK247 0
      have hnb31 := NB241_233.out
      have hnc31 := NB233_241.out
      have hnb32 := NB241_234.out
      have hnc32 := NB234_241.out
      have hcz33_0 := bv BK241 0 (.slice Ao20 x242000_1.length co20)
      have hfz33_0 := bz BK241 0
      try go_wp2
      go_roundg k1
      case measure => have := HK1.out; omega
      case rel => exact ⟨(wrap64 (x7_1 + 1)), (t243), (.slice Ao25 t243.length co25), sf, H', ⟨by have := HK1.out; omega⟩, ⟨by exact Kd.R_mono (Kd.R_far (p := ⟨gb241, 0, none⟩) (Kd.R_far (p := ⟨gb247, 0, none⟩) (Kd.R_types (Kd.R_types HO245.out BK247.out (by decide)) BK241.out (by decide)) (fun _ hk => hk.1.2) (.slice Ao25 t243.length co25)) (fun _ hk => hk.2) (.slice Ao25 t243.length co25)) (fun _ hk => trivial)⟩, ⟨be⟩, ⟨be⟩, ⟨by (with_reducible repeat first | apply aN | apply aD | apply aA); refine blk_put (cs := #[.slice Ao20 x242000_1.length co20]) ?_ 0 _ rfl; (with_reducible repeat first | apply aN | apply aD | apply aA); refine blk_far ?_ NB241_247.out _; exact bk BK241⟩, ⟨hS⟩⟩
     replace c19 := Bool.eq_false_iff.mpr c19
     subst c19
     have H1 : (some (x242000_1, x7_1)) = some (r1, r2) := by rw [if_neg (show ¬ (false = true) by decide)] at H; exact H
     clear H
     have H := H1
     clear H1
     simp only [Option.some.injEq, Prod.mk.injEq] at H
     obtain ⟨rfl, rfl⟩ := H
     obtain ⟨Ao34, co34, eo34⟩ := Kd.R_slice HO_242000.out
     subst eo34
     try go_wp2
     replace HO_242000 := AM (Kd.R_drew HO_242000.out)
     replace BK233 := AM (blk_drew BK233.out)
     replace BK234 := AM (blk_drew BK234.out)
     replace BK241 := AM (blk_drew BK241.out)
     replace HB := AM (below_drew1 HB.out)
     have p242 : 0 ≤ (x7_1 : Int) := od
     have q242 : x7_1 < (l1.length : Int) := od
     obtain ⟨ad242, e242, hx242_0, hx242_1, hx242_2, hx242_3⟩ := at_T41 HR1.out x7_1 p242 q242
     have hw242_3 := hx242_3
     have hw242_2 := hx242_2
     have hw242_1 := hx242_1
     have hw242_0 := hx242_0
     cases e242
     replace hx242_0 := cl HB hx242_0
     replace hx242_1 := cl HB hx242_1
     replace hx242_2 := cl HB hx242_2
     replace hx242_3 := cl HB hx242_3
     replace p242 := eq_true p242
     replace q242 := eq_true q242
     refine start_ (n := 12) (S := fun w' => w'.cell? ⟨gb241, 0, none⟩ = some (.slice Ao34 x242000_1.length co34) ∧ w'.cell? (ad242.add ((x7_1).toNat * 4)) = some (.int .i64 ((rd_T41 l1 x7_1).f0)) ∧ w'.cell? ⟨(ad242.add ((x7_1).toNat * 4)).block, (ad242.add ((x7_1).toNat * 4)).off + 1, none⟩ = some (.string ((rd_T41 l1 x7_1).f1)) ∧ w'.cell? ⟨(ad242.add ((x7_1).toNat * 4)).block, (ad242.add ((x7_1).toNat * 4)).off + 2, none⟩ = some (.string ((rd_T41 l1 x7_1).f2)) ∧ w'.cell? ⟨(ad242.add ((x7_1).toNat * 4)).block, (ad242.add ((x7_1).toNat * 4)).off + 3, none⟩ = some (.string ((rd_T41 l1 x7_1).f3))) (ds := []) #[false, false, false, false, false, false, false, false, false, false, false, false] (by kernel_rfl) rfl rfl ⟨bc BK241 0, (cl HB hw242_0), (cl HB hw242_1), (cl HB hw242_2), (cl HB hw242_3)⟩ (fun hHeld => ?_); refine with_tabW spec_DoActs.tab5 spec_DoActs.bits5 (fun HT_ HW_ => ?_)
     generalize wr.drew = w35 at HO_242000 BK233 BK234 BK241 HB hx242_0 hx242_1 hx242_2 hx242_3 hHeld ⊢
     refine pure_ (i := 1) (N := some 23) (v := ?_) (a' := ?_) #[false, true, false, false, false, false, false, false, false, false, false, false] rfl rfl (any_of HT_.out (by kernel_rfl)) (fun _ _ _ h => h) (Or.inl ⟨by rfl, ?_⟩) ?_ ?_
     rotate_left
     ·intro w'
      go_simp
      with_reducible rfl
     rotate_left
     ·simp only [Act.put, qT, q0, qS, i64_w, i32_w]
      rfl
     refine pure_ (i := 2) (N := some 24) (v := ?_) (a' := ?_) #[false, true, true, false, false, false, false, false, false, false, false, false] rfl rfl (any_of HT_.out (by kernel_rfl)) (fun _ _ _ h => h) (Or.inl ⟨by rfl, ?_⟩) ?_ ?_
     rotate_left
     ·intro w'
      go_simp
      with_reducible rfl
     rotate_left
     ·simp only [Act.put, qT, q0, qS, i64_w, i32_w]
      rfl
     refine pure_ (i := 3) (N := some 25) (v := ?_) (a' := ?_) #[false, true, true, true, false, false, false, false, false, false, false, false] rfl rfl (any_of HT_.out (by kernel_rfl)) (fun _ _ _ h => h) (Or.inl ⟨by rfl, ?_⟩) ?_ ?_
     rotate_left
     ·intro w'
      go_simp
      with_reducible rfl
     rotate_left
     ·simp only [Act.put, qT, q0, qS, i64_w, i32_w]
      rfl
     refine take_ (i := 0) (N := some 22) (v := ?_) (a' := ?_) #[true, true, true, true, false, false, false, false, false, false, false, false] rfl rfl (take_ofW HT_.out HW_.out (by kernel_rfl)) (fun _ _ _ h => h) (Or.inl ⟨by rfl, ?_⟩) hHeld ?_ ?_
     rotate_left
     ·rintro w' ⟨s0, s1, s2, s3, s4⟩
      go_simp
      with_reducible rfl
     rotate_left
     ·simp only [Act.put, qT, q0, qS, i64_w, i32_w]
      rfl
     refine take_ (i := 4) (N := some 26) (v := ?_) (a' := ?_) #[true, true, true, true, true, false, false, false, false, false, false, false] rfl rfl (take_ofW HT_.out HW_.out (by kernel_rfl)) (fun _ _ _ h => h) (Or.inl ⟨by rfl, ?_⟩) hHeld ?_ ?_
     rotate_left
     ·rintro w' ⟨s0, s1, s2, s3, s4⟩
      go_simp
      with_reducible rfl
     rotate_left
     ·simp only [Act.put, qT, q0, qS, i64_w, i32_w]
      rfl
     refine join_ (σ := Value × Nat) 2 #[true, true, true, true, true, true, true, true, true, true, false, false] (fun s_ => [(27, .tuple #[.agg #[s_.1], .bool false]), (8, .pointer (some ⟨s_.2, 0, none⟩)), (21, .tuple #[.agg #[s_.1], .bool false]), (28, .agg #[s_.1]), (29, .bool false)]) (fun s_ w' => (w'.cell? ⟨gb241, 0, none⟩ = some (.slice Ao34 x242000_1.length co34) ∧ w'.cell? (ad242.add ((x7_1).toNat * 4)) = some (.int .i64 ((rd_T41 l1 x7_1).f0)) ∧ w'.cell? ⟨(ad242.add ((x7_1).toNat * 4)).block, (ad242.add ((x7_1).toNat * 4)).off + 1, none⟩ = some (.string ((rd_T41 l1 x7_1).f1)) ∧ w'.cell? ⟨(ad242.add ((x7_1).toNat * 4)).block, (ad242.add ((x7_1).toNat * 4)).off + 2, none⟩ = some (.string ((rd_T41 l1 x7_1).f2)) ∧ w'.cell? ⟨(ad242.add ((x7_1).toNat * 4)).block, (ad242.add ((x7_1).toNat * 4)).off + 3, none⟩ = some (.string ((rd_T41 l1 x7_1).f3))) ∧ (Kd.R k67 67 w' w.heap.size (fun k_ => some k_ ≠ (.slice Ao34 x242000_1.length co34 : Value).ownBlock) s_.1 t243) ∧ (Kd.R k67 67 w' w.heap.size (fun k_ => some k_ ≠ (s_.1 : Value).ownBlock) (.slice Ao34 x242000_1.length co34) x242000_1) ∧ (w'.heap[gb233]? = some (.cells #[.slice A0_0 l0_0.length c0_0] 30 (0, 0))) ∧ (w'.heap[gb234]? = some (.cells #[.slice none 0 0] 30 (0, 0))) ∧ (w'.heap[gb241]? = some (.cells #[.slice Ao34 x242000_1.length co34] 30 (0, 0))) ∧ (w'.heap[s_.2]? = some (.cells #[.slice none 0 0] 30 (0, 0))) ∧ (w.heap.size ≤ s_.2) ∧ (w.heap.size ≤ s_.2) ∧ (gb233 ≠ s_.2) ∧ (s_.2 ≠ gb233) ∧ (gb234 ≠ s_.2) ∧ (s_.2 ≠ gb234) ∧ (gb241 ≠ s_.2) ∧ (s_.2 ≠ gb241) ∧ (Below w.heap.size w w')) ?_ ?_
     rotate_left
     ·intro hCont
      refine two_ (i := 5) (j := 9) (Ni := some 27) (Nj := some 8) #[true, true, true, true, true, true, false, false, false, false, false, false] #[true, true, true, true, true, false, false, false, false, true, false, false] rfl rfl rfl rfl (two_of HT_.out (by kernel_rfl)) (by decide) (by decide) (fun K hK => ?_) (fun K hK => ?_)
      ·skip
       refine goes_ Try.func17 (by kernel_rfl) rfl #[.agg #[.slice Ao34 x242000_1.length co34], .agg #[.int .i64 ((rd_T41 l1 x7_1).f0), .string ((rd_T41 l1 x7_1).f1), .string ((rd_T41 l1 x7_1).f2), .string ((rd_T41 l1 x7_1).f3)]] (by rfl) rfl rfl am ?_
       with_reducible refine (spec_DoAct.calls k1 _ _ x242000_1 ((rd_T41 l1 x7_1).f0) ((rd_T41 l1 x7_1).f1) ((rd_T41 l1 x7_1).f2) ((rd_T41 l1 x7_1).f3) t243 false _ ?side1 ?side2 A18.out).mono ?_
       (case side1 => repeat (first | exact (Kd.R_reads' HO_242000.out).2.2 | (with_reducible first | refine cA ?_ _ | refine cN ?_ _ | refine cD ?_)))
       (case side2 => exact (Kd.R_reads' HO_242000.out).2.1)
       rintro e w36 ⟨v244, rfl, ho0, hb⟩
       refine ⟨_, rfl, ?_⟩
       have HO245 := AM (Kd.R_lower (Kd.R_new' ho0 (Kd.R_lt (by exact HO_242000.out))) (below_size (hS)))
       replace HO_242000 := AM (Kd.R_elder' (by exact HO_242000.out) (Kd.R_base ho0) hb)
       replace BK233 := bw BK233 hb
       replace BK234 := bw BK234 hb
       replace BK241 := bw BK241 hb
       replace HB := AM (below_step (hS) hb)
       (try clear hb)
       (try clear hb2)
       (try clear hk)
       (try clear hi)
       (try clear ho0)
       refine hK.out _ _ ⟨bc BK241 0, (cl HB hw242_0), (cl HB hw242_1), (cl HB hw242_2), (cl HB hw242_3)⟩ (fun hHeld => ?_)
       clear hK K
       refine norm_ (a' := ?_) ?_ ?_
       rotate_left
       ·show Act.put _ (some 27) _ = _
        simp only [Act.put, qT, q0, qS, i64_w, i32_w]
        rfl
       refine pure_ (i := 6) (N := some 21) (v := ?_) (a' := ?_) #[true, true, true, true, true, true, true, false, false, false, false, false] rfl rfl (any_of HT_.out (by kernel_rfl)) (fun _ _ _ h => h) (Or.inl ⟨by rfl, ?_⟩) ?_ ?_
       rotate_left
       ·intro w'
        go_simp
        with_reducible rfl
       rotate_left
       ·simp only [Act.put, qT, q0, qS, i64_w, i32_w]
        rfl
       refine pure_ (i := 7) (N := some 28) (v := ?_) (a' := ?_) #[true, true, true, true, true, true, true, true, false, false, false, false] rfl rfl (any_of HT_.out (by kernel_rfl)) (fun _ _ _ h => h) (Or.inl ⟨by rfl, ?_⟩) ?_ ?_
       rotate_left
       ·intro w'
        go_simp
        with_reducible rfl
       rotate_left
       ·simp only [Act.put, qT, q0, qS, i64_w, i32_w]
        rfl
       refine pure_ (i := 8) (N := some 29) (v := ?_) (a' := ?_) #[true, true, true, true, true, true, true, true, true, false, false, false] rfl rfl (any_of HT_.out (by kernel_rfl)) (fun _ _ _ h => h) (Or.inl ⟨by rfl, ?_⟩) ?_ ?_
       rotate_left
       ·intro w'
        go_simp
        with_reducible rfl
       rotate_left
       ·simp only [Act.put, qT, q0, qS, i64_w, i32_w]
        rfl
       refine one_ (i := 9) (N := some 8) #[true, true, true, true, true, true, true, true, true, true, false, false] rfl rfl (one_of HT_.out (by kernel_rfl)) (by decide) (fun K hK => ?_)
       refine box_step ?hg (N := 8) ?hd (cs := #[.slice none 0 0]) (t := 30) ?hr ?_; (case hd => rfl); (case hg => rfl); (case hr => first | (go_simp; done) | (go_simp; rfl))
       intro gb247 hg w37 hbox hb
       replace HO_242000 := AM (Kd.R_below (by exact HO_242000.out) hb)
       replace HO245 := AM (Kd.R_below (by exact HO245.out) hb)
       have BK247 := AM (hbox)
       have GW247 := AM (bt hg hS)
       have GE247 := AM (bt hg hS)
       replace HB := AM (below_step (hS) hb)
       have NB233_247 := AM (nl hg (bk BK233))
       have NB247_233 := AM (ng hg (bk BK233))
       replace BK233 := bw BK233 hb
       have NB234_247 := AM (nl hg (bk BK234))
       have NB247_234 := AM (ng hg (bk BK234))
       replace BK234 := bw BK234 hb
       have NB241_247 := AM (nl hg (bk BK241))
       have NB247_241 := AM (ng hg (bk BK241))
       replace BK241 := bw BK241 hb
       clear hb hbox hg
       refine hK.out _ _ ⟨bc BK241 0, (cl HB hw242_0), (cl HB hw242_1), (cl HB hw242_2), (cl HB hw242_3)⟩ (fun hHeld => ?_)
       clear hK K
       refine norm_ (a' := ?_) ?_ ?_
       rotate_left
       ·show Act.put _ (some 8) _ = _
        simp only [Act.put, qT, q0, qS, i64_w, i32_w]
        rfl
       exact norm_ (by simp only [putAll, Act.put, qT, q0, qS]) (hCont (v244, gb247) _ ⟨hHeld, (by exact Kd.R_mono HO245.out (fun _ hk => hk.2)), (by exact Kd.R_mono HO_242000.out (fun _ hk => hk.2)), (bk BK233), (bk BK234), (bk BK241), (bk BK247), GW247.out, GE247.out, NB233_247.out, NB247_233.out, NB234_247.out, NB247_234.out, NB241_247.out, NB247_241.out, (hS)⟩)
      skip
      refine box_step ?hg (N := 8) ?hd (cs := #[.slice none 0 0]) (t := 30) ?hr ?_; (case hd => rfl); (case hg => rfl); (case hr => first | (go_simp; done) | (go_simp; rfl))
      intro gb247 hg w36 hbox hb
      replace HO_242000 := AM (Kd.R_below (by exact HO_242000.out) hb)
      have BK247 := AM (hbox)
      have GW247 := AM (bt hg hS)
      have GE247 := AM (bt hg hS)
      replace HB := AM (below_step (hS) hb)
      have NB233_247 := AM (nl hg (bk BK233))
      have NB247_233 := AM (ng hg (bk BK233))
      replace BK233 := bw BK233 hb
      have NB234_247 := AM (nl hg (bk BK234))
      have NB247_234 := AM (ng hg (bk BK234))
      replace BK234 := bw BK234 hb
      have NB241_247 := AM (nl hg (bk BK241))
      have NB247_241 := AM (ng hg (bk BK241))
      replace BK241 := bw BK241 hb
      clear hb hbox hg
      refine hK.out _ _ ⟨bc BK241 0, (cl HB hw242_0), (cl HB hw242_1), (cl HB hw242_2), (cl HB hw242_3)⟩ (fun hHeld => ?_)
      clear hK K
      refine norm_ (a' := ?_) ?_ ?_
      rotate_left
      ·show Act.put _ (some 8) _ = _
       simp only [Act.put, qT, q0, qS, i64_w, i32_w]
       rfl
      refine one_ (i := 5) (N := some 27) #[true, true, true, true, true, true, false, false, false, true, false, false] rfl rfl (one_of HT_.out (by kernel_rfl)) (by decide) (fun K hK => ?_)
      refine goes_ Try.func17 (by kernel_rfl) rfl #[.agg #[.slice Ao34 x242000_1.length co34], .agg #[.int .i64 ((rd_T41 l1 x7_1).f0), .string ((rd_T41 l1 x7_1).f1), .string ((rd_T41 l1 x7_1).f2), .string ((rd_T41 l1 x7_1).f3)]] (by rfl) rfl rfl am ?_
      with_reducible refine (spec_DoAct.calls k1 _ _ x242000_1 ((rd_T41 l1 x7_1).f0) ((rd_T41 l1 x7_1).f1) ((rd_T41 l1 x7_1).f2) ((rd_T41 l1 x7_1).f3) t243 false _ ?side1 ?side2 A18.out).mono ?_
      (case side1 => repeat (first | exact (Kd.R_reads' HO_242000.out).2.2 | (with_reducible first | refine cA ?_ _ | refine cN ?_ _ | refine cD ?_)))
      (case side2 => exact (Kd.R_reads' HO_242000.out).2.1)
      rintro e w37 ⟨v244, rfl, ho0, hb⟩
      refine ⟨_, rfl, ?_⟩
      have HO245 := AM (Kd.R_lower (Kd.R_new' ho0 (Kd.R_lt (by exact HO_242000.out))) (below_size (hS)))
      replace HO_242000 := AM (Kd.R_elder' (by exact HO_242000.out) (Kd.R_base ho0) hb)
      replace BK233 := bw BK233 hb
      replace BK234 := bw BK234 hb
      replace BK241 := bw BK241 hb
      replace BK247 := bw BK247 hb
      replace HB := AM (below_step (hS) hb)
      (try clear hb)
      (try clear hb2)
      (try clear hk)
      (try clear hi)
      (try clear ho0)
      refine hK.out _ _ ⟨bc BK241 0, (cl HB hw242_0), (cl HB hw242_1), (cl HB hw242_2), (cl HB hw242_3)⟩ (fun hHeld => ?_)
      clear hK K
      refine norm_ (a' := ?_) ?_ ?_
      rotate_left
      ·show Act.put _ (some 27) _ = _
       simp only [Act.put, qT, q0, qS, i64_w, i32_w]
       rfl
      refine pure_ (i := 6) (N := some 21) (v := ?_) (a' := ?_) #[true, true, true, true, true, true, true, false, false, true, false, false] rfl rfl (any_of HT_.out (by kernel_rfl)) (fun _ _ _ h => h) (Or.inl ⟨by rfl, ?_⟩) ?_ ?_
      rotate_left
      ·intro w'
       go_simp
       with_reducible rfl
      rotate_left
      ·simp only [Act.put, qT, q0, qS, i64_w, i32_w]
       rfl
      refine pure_ (i := 7) (N := some 28) (v := ?_) (a' := ?_) #[true, true, true, true, true, true, true, true, false, true, false, false] rfl rfl (any_of HT_.out (by kernel_rfl)) (fun _ _ _ h => h) (Or.inl ⟨by rfl, ?_⟩) ?_ ?_
      rotate_left
      ·intro w'
       go_simp
       with_reducible rfl
      rotate_left
      ·simp only [Act.put, qT, q0, qS, i64_w, i32_w]
       rfl
      refine pure_ (i := 8) (N := some 29) (v := ?_) (a' := ?_) #[true, true, true, true, true, true, true, true, true, true, false, false] rfl rfl (any_of HT_.out (by kernel_rfl)) (fun _ _ _ h => h) (Or.inl ⟨by rfl, ?_⟩) ?_ ?_
      rotate_left
      ·intro w'
       go_simp
       with_reducible rfl
      rotate_left
      ·simp only [Act.put, qT, q0, qS, i64_w, i32_w]
       rfl
      exact norm_ (by simp only [putAll, Act.put, qT, q0, qS]) (hCont (v244, gb247) _ ⟨hHeld, (by exact Kd.R_mono HO245.out (fun _ hk => hk.2)), (by exact Kd.R_mono HO_242000.out (fun _ hk => hk.2)), (bk BK233), (bk BK234), (bk BK241), (bk BK247), GW247.out, GE247.out, NB233_247.out, NB247_233.out, NB234_247.out, NB247_234.out, NB241_247.out, NB247_241.out, (hS)⟩)
     rintro ⟨v244, gb247⟩ w38 ⟨hS_, h0_, h1_, h2_, h3_, h4_, h5_, h6_, h7_, h8_, h9_, h10_, h11_, h12_, h13_, h14_⟩
     have n0_ : Aside0 (Kd.R k67 67 w38 w.heap.size (fun k_ => some k_ ≠ (.slice Ao34 x242000_1.length co34 : Value).ownBlock) v244 t243) := ⟨h0_⟩
     have n1_ : Aside0 (Kd.R k67 67 w38 w.heap.size (fun k_ => some k_ ≠ (v244 : Value).ownBlock) (.slice Ao34 x242000_1.length co34) x242000_1) := ⟨h1_⟩
     have n2_ : Aside0 (w38.heap[gb233]? = some (.cells #[.slice A0_0 l0_0.length c0_0] 30 (0, 0))) := ⟨h2_⟩
     have n3_ : Aside0 (w38.heap[gb234]? = some (.cells #[.slice none 0 0] 30 (0, 0))) := ⟨h3_⟩
     have n4_ : Aside0 (w38.heap[gb241]? = some (.cells #[.slice Ao34 x242000_1.length co34] 30 (0, 0))) := ⟨h4_⟩
     have n5_ : Aside0 (w38.heap[gb247]? = some (.cells #[.slice none 0 0] 30 (0, 0))) := ⟨h5_⟩
     have n6_ : Aside0 (w.heap.size ≤ gb247) := ⟨h6_⟩
     have n7_ : Aside0 (w.heap.size ≤ gb247) := ⟨h7_⟩
     have n8_ : Aside0 (gb233 ≠ gb247) := ⟨h8_⟩
     have n9_ : Aside0 (gb247 ≠ gb233) := ⟨h9_⟩
     have n10_ : Aside0 (gb234 ≠ gb247) := ⟨h10_⟩
     have n11_ : Aside0 (gb247 ≠ gb234) := ⟨h11_⟩
     have n12_ : Aside0 (gb241 ≠ gb247) := ⟨h12_⟩
     have n13_ : Aside0 (gb247 ≠ gb241) := ⟨h13_⟩
     have n14_ : Aside0 (Below w.heap.size w w38) := ⟨h14_⟩
     clear HO_242000
     clear BK233
     clear BK234
     clear BK241
     clear HB
     clear h0_ h1_ h2_ h3_ h4_ h5_ h6_ h7_ h8_ h9_ h10_ h11_ h12_ h13_ h14_
     have HO245 := n0_
     have HO_242000 := n1_
     have BK233 := n2_
     have BK234 := n3_
     have BK241 := n4_
     have BK247 := n5_
     have GW247 := n6_
     have GE247 := n7_
     have NB233_247 := n8_
     have NB247_233 := n9_
     have NB234_247 := n10_
     have NB247_234 := n11_
     have NB241_247 := n12_
     have NB247_241 := n13_
     have HB := n14_
     clear n0_ n1_ n2_ n3_ n4_ n5_ n6_ n7_ n8_ n9_ n10_ n11_ n12_ n13_ n14_
     have hHeld : w38.cell? ⟨gb241, 0, none⟩ = some (.slice Ao34 x242000_1.length co34) ∧ w38.cell? (ad242.add ((x7_1).toNat * 4)) = some (.int .i64 ((rd_T41 l1 x7_1).f0)) ∧ w38.cell? ⟨(ad242.add ((x7_1).toNat * 4)).block, (ad242.add ((x7_1).toNat * 4)).off + 1, none⟩ = some (.string ((rd_T41 l1 x7_1).f1)) ∧ w38.cell? ⟨(ad242.add ((x7_1).toNat * 4)).block, (ad242.add ((x7_1).toNat * 4)).off + 2, none⟩ = some (.string ((rd_T41 l1 x7_1).f2)) ∧ w38.cell? ⟨(ad242.add ((x7_1).toNat * 4)).block, (ad242.add ((x7_1).toNat * 4)).off + 3, none⟩ = some (.string ((rd_T41 l1 x7_1).f3)) := hS_
     obtain ⟨Ao39, co39, eo39⟩ := Kd.R_slice HO245.out
     (first | subst eo39 | (injection eo39 with f1_ f2_ f3_; have f4_ := f1_.symm; have f5_ := f3_.symm; clear f1_ f2_ f3_; subst f4_; subst f5_))
     refine norm_ (a' := ?_) ?_ ?_
     rotate_left
     ·simp only [putAll, Act.put, qT, q0, qS]
      rfl
     refine one_ (i := 10) (N := none) #[true, true, true, true, true, true, true, true, true, true, true, false] rfl rfl (one_of HT_.out (by kernel_rfl)) (by decide) (fun K hK => ?_)
     have hs40 : w38.cell? ⟨gb247, 0, none⟩ = some (.slice none 0 0) := bc BK247 0
     have hfs40 := bz BK247 0
     have hns40_0 := NB233_247.out
     have hns40_1 := NB234_247.out
     have hns40_2 := NB241_247.out
     have hms40_0 := NB247_233.out
     have hms40_1 := NB247_234.out
     have hms40_2 := NB247_241.out
     refine skip_ (w1 := ?_) (by rfl) rfl ?_ ?_
     rotate_left
     ·go_simp
      rfl
     refine hK.out _ _ ⟨((cell_far (p := ⟨gb247, _, none⟩) NB241_247.out _).trans (hHeld.1)), ((cell_far (p := ⟨gb247, _, none⟩) (by first | exact Nat.ne_of_lt (Nat.lt_of_lt_of_le (by have := World.block_lt_of_cell? _ _ hw242_0; first | rwa [add_block] at this | exact this) GW247.out) | (rw [add_block]; exact Nat.ne_of_lt (Nat.lt_of_lt_of_le (by have := World.block_lt_of_cell? _ _ hw242_0; first | rwa [add_block] at this | exact this) GW247.out)) | (show (Addr.add _ _).block ≠ _; rw [add_block]; exact Nat.ne_of_lt (Nat.lt_of_lt_of_le (by have := World.block_lt_of_cell? _ _ hw242_0; first | rwa [add_block] at this | exact this) GW247.out)) | (dsimp only; exact Nat.ne_of_lt (Nat.lt_of_lt_of_le (by have := World.block_lt_of_cell? _ _ hw242_0; first | rwa [add_block] at this | exact this) GW247.out))) _).trans (hHeld.2.1)), ((cell_far (p := ⟨gb247, _, none⟩) (by first | exact Nat.ne_of_lt (Nat.lt_of_lt_of_le (by have := World.block_lt_of_cell? _ _ hw242_1; first | rwa [add_block] at this | exact this) GW247.out) | (rw [add_block]; exact Nat.ne_of_lt (Nat.lt_of_lt_of_le (by have := World.block_lt_of_cell? _ _ hw242_1; first | rwa [add_block] at this | exact this) GW247.out)) | (show (Addr.add _ _).block ≠ _; rw [add_block]; exact Nat.ne_of_lt (Nat.lt_of_lt_of_le (by have := World.block_lt_of_cell? _ _ hw242_1; first | rwa [add_block] at this | exact this) GW247.out)) | (dsimp only; exact Nat.ne_of_lt (Nat.lt_of_lt_of_le (by have := World.block_lt_of_cell? _ _ hw242_1; first | rwa [add_block] at this | exact this) GW247.out))) _).trans (hHeld.2.2.1)), ((cell_far (p := ⟨gb247, _, none⟩) (by first | exact Nat.ne_of_lt (Nat.lt_of_lt_of_le (by have := World.block_lt_of_cell? _ _ hw242_2; first | rwa [add_block] at this | exact this) GW247.out) | (rw [add_block]; exact Nat.ne_of_lt (Nat.lt_of_lt_of_le (by have := World.block_lt_of_cell? _ _ hw242_2; first | rwa [add_block] at this | exact this) GW247.out)) | (show (Addr.add _ _).block ≠ _; rw [add_block]; exact Nat.ne_of_lt (Nat.lt_of_lt_of_le (by have := World.block_lt_of_cell? _ _ hw242_2; first | rwa [add_block] at this | exact this) GW247.out)) | (dsimp only; exact Nat.ne_of_lt (Nat.lt_of_lt_of_le (by have := World.block_lt_of_cell? _ _ hw242_2; first | rwa [add_block] at this | exact this) GW247.out))) _).trans (hHeld.2.2.2.1)), ((cell_far (p := ⟨gb247, _, none⟩) (by first | exact Nat.ne_of_lt (Nat.lt_of_lt_of_le (by have := World.block_lt_of_cell? _ _ hw242_3; first | rwa [add_block] at this | exact this) GW247.out) | (rw [add_block]; exact Nat.ne_of_lt (Nat.lt_of_lt_of_le (by have := World.block_lt_of_cell? _ _ hw242_3; first | rwa [add_block] at this | exact this) GW247.out)) | (show (Addr.add _ _).block ≠ _; rw [add_block]; exact Nat.ne_of_lt (Nat.lt_of_lt_of_le (by have := World.block_lt_of_cell? _ _ hw242_3; first | rwa [add_block] at this | exact this) GW247.out)) | (dsimp only; exact Nat.ne_of_lt (Nat.lt_of_lt_of_le (by have := World.block_lt_of_cell? _ _ hw242_3; first | rwa [add_block] at this | exact this) GW247.out))) _).trans (hHeld.2.2.2.2))⟩ (fun hHeld => ?_)
     clear hK K
     refine pure_ (i := 11) (N := some 9) (v := ?_) (a' := ?_) #[true, true, true, true, true, true, true, true, true, true, true, true] rfl rfl (any_of HT_.out (by kernel_rfl)) (fun _ _ _ h => h) (Or.inl ⟨by rfl, ?_⟩) ?_ ?_
     rotate_left
     ·intro w'
      go_simp
      with_reducible rfl
     rotate_left
     ·simp only [Act.put, qT, q0, qS, i64_w, i32_w]
      rfl
     refine done_ (done_of HT_.out (by kernel_rfl)) ?_
     have hnb41 := NB241_233.out
     have hnc41 := NB233_241.out
     have hnb42 := NB241_234.out
     have hnc42 := NB234_241.out
     have hnb43 := NB241_247.out
     have hnc43 := NB247_241.out
     have hcz44_0 := bv BK241 0 (.slice Ao34 x242000_1.length co34)
     have hfz44_0 := bz BK241 0
     have hnb45 := NB234_233.out
     have hnc45 := NB233_234.out
     have hnb46 := NB234_247.out
     have hnc46 := NB247_234.out
     have hcz47_0 := bv BK234 0 (.slice none 0 0)
     have hfz47_0 := bz BK234 0
     try go_wp2
     refine bodyPost_ret (results_ct rfl _ _ gb234 30 #[.slice Ao34 x242000_1.length co34] (0, 0) _ rfl (by (with_reducible repeat first | apply aN | apply aD | apply aA); refine blk_put (cs := #[.slice none 0 0]) ?_ 0 _ rfl; (with_reducible repeat first | apply aN | apply aD | apply aA); refine blk_far ?_ NB234_247.out _; exact bk BK234) Try.underlying30 rfl (by kernel_rfl)) rfl ?_
     exact ⟨_, er, by exact Kd.R_mono (Kd.R_far (p := ⟨gb234, 0, none⟩) (Kd.R_far (p := ⟨gb247, 0, none⟩) (Kd.R_types (Kd.R_types HO_242000.out BK247.out (by decide)) BK234.out (by decide)) (fun _ hk => hk.1.2) (.slice Ao39 t243.length co39)) (fun _ hk => hk.2) (.slice Ao34 x242000_1.length co34)) (fun _ hk => trivial), hS⟩
    rw [if_neg c17] at H
    exact absurd H (by simp)
   rw [if_neg c16] at H
   have c16b0 : decide (x7_1 < (l1.length : Int)) = false := decide_eq_false c16
   clear c16
   simp only [Option.some.injEq, Prod.mk.injEq] at H
   obtain ⟨rfl, rfl⟩ := H
   have hnb48 := NB241_233.out
   have hnc48 := NB233_241.out
   have hnb49 := NB241_234.out
   have hnc49 := NB234_241.out
   have hcz50_0 := bv BK241 0 (u242000)
   have hfz50_0 := bz BK241 0
   obtain ⟨Ao51, co51, eo51⟩ := Kd.R_slice HO_242000.out
   subst eo51
   have hnb52 := NB234_233.out
   have hnc52 := NB233_234.out
   have hcz53_0 := bv BK234 0 (.slice none 0 0)
   have hfz53_0 := bz BK234 0
   go_wp2
   refine bodyPost_ret (results_ct rfl _ _ gb234 30 #[.slice Ao51 x242000_1.length co51] (0, 0) _ rfl (by (with_reducible repeat first | apply aN | apply aD | apply aA); refine blk_put (cs := #[.slice none 0 0]) ?_ 0 _ rfl; exact bk BK234) Try.underlying30 rfl (by kernel_rfl)) rfl ?_
   exact ⟨_, er, by exact Kd.R_mono (Kd.R_far (p := ⟨gb234, 0, none⟩) (Kd.R_types HO_242000.out BK234.out (by decide)) (fun _ hk => hk.2) (.slice Ao51 x242000_1.length co51)) (fun _ hk => trivial), hS⟩
 rw [if_neg c3] at H
 exact absurd H (by simp)

end Go.Proofs.Ytnkldnkolcighaa.XFnExactCutActs
