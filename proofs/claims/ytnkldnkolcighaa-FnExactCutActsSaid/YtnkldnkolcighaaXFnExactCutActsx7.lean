/- What the functions of a law compute, and that their calls compute it: written by a program of this session (xprint.py), which turns the kit print at a few places. -/
import Derived.Test.YtnkldnkolcighaaXFnExactCutActsx0
namespace Go.Proofs.Ytnkldnkolcighaa.XFnExactCutActs
open Go.RowKit Go.Proofs.YtnkldnkolcighaaT.PrintWords Go.Proofs.YtnkldnkolcighaaT.PrintLast Go.Proofs.YtnkldnkolcighaaT.PrintMore
attribute [local go_sem] max2_int min2_int max_two min_two max_three min_three max_four min_four str_geq str_gtr   -- for this text's walks alone
set_option linter.unusedVariables false
set_option linter.unusedSimpArgs false

/-! ### spec_l03Without: function 47 -/
def spec_l03Without.l0 : Nat → ByteArray → Int → List (S67) → List (S67) → Option ((List (S67)))
 | 0, _, _, _, _ => none
 | k + 1, x1, x6, x197000, x199000 => if x6 < (x197000.length : Int) then (if 0 ≤ x6 then (if ((rd_T67 x197000 x6).f0).toList = x1.toList then (spec_l03Without.l0 k x1 (wrap64 (x6 + 1)) x197000 x199000) else (if x199000.length < 3518437208883 then (spec_l03Without.l0 k x1 (wrap64 (x6 + 1)) x197000 (x199000 ++ [(⟨(rd_T67 x197000 x6).f0, (rd_T67 x197000 x6).f1, (rd_T67 x197000 x6).f2⟩ : S67)])) else (none))) else (none)) else (some x199000)
def spec_l03Without.f (k : Nat) (l0_0 : List (S67)) (a1 : ByteArray) : Option ((List (S67))) := spec_l03Without.l0 k a1 0 l0_0 ([] : List (S67))
theorem spec_l03Without.mono_l : ∀ k, (∀ y0 y1 y2 y3, LeO (spec_l03Without.l0 k y0 y1 y2 y3) (spec_l03Without.l0 (k + 1) y0 y1 y2 y3))
 | 0 => fun _ _ _ _ r h => by simp [spec_l03Without.l0] at h
 | k + 1 => by
  have ih0 := spec_l03Without.mono_l k
  intro y0 y1 y2 y3
  unfold spec_l03Without.l0
  repeat' first
  | (with_reducible exact LeO.refl _)
  | (with_reducible refine LeO.ite ?_ ?_)
  | (with_reducible refine LeO.bind ?_ (fun _ => ?_))
  | exact ih0 _ _ _ _
  | exact LeO.none _
  | refine LeO.ite ?_ ?_
  | refine LeO.bind ?_ (fun _ => ?_)
theorem spec_l03Without.mono : ∀ a0 a1 k, LeO (spec_l03Without.f k a0 a1) (spec_l03Without.f (k + 1) a0 a1) := by
 intro a0 a1 k
 have ih0 := spec_l03Without.mono_l k
 unfold spec_l03Without.f
 repeat' first
   | (with_reducible exact LeO.refl _)
   | (with_reducible refine LeO.ite ?_ ?_)
   | (with_reducible refine LeO.bind ?_ (fun _ => ?_))
   | exact ih0 _ _ _ _
   | exact LeO.none _
   | refine LeO.ite ?_ ?_
   | refine LeO.bind ?_ (fun _ => ?_)
def spec_l03Without.T6 : Bool × List (List Nat × List Nat) := (true, [([], []), ([0], [0]), ([], []), ([2], [2]), ([], []), ([3, 4], [3, 4]), ([5], [5]), ([6], [6]), ([1, 7], [1, 7]), ([0, 1, 2, 3, 4, 5, 6, 7, 8], []), ([9, 8, 8, 0, 1, 2, 3, 4, 5, 6, 7, 8], [8, 9])])
def spec_l03Without.B6 : List Nat := [0, 1, 0, 4, 0, 28, 60, 124, 255, 511, 1023]
theorem spec_l03Without.tab6 : rtab .any (opsOf Try.f47 6) = spec_l03Without.T6 := by kernel_rfl
theorem spec_l03Without.bits6 : waitsOk spec_l03Without.T6.2 spec_l03Without.B6 = true := by kernel_rfl
set_option maxHeartbeats 8000000 in
set_option maxRecDepth 100000 in
theorem spec_l03Without.calls (k : Nat) (A0_0 : Option Addr) (c0_0 : Nat) (l0_0 : List (S67)) (a1 : ByteArray) (r : List (S67)) (w : World) (hr0_0 : Kd.C k67 w A0_0 l0_0.length l0_0) (hc0_0 : l0_0.length ≤ c0_0) (h : spec_l03Without.f k l0_0 a1 = some r) :
  Calls Try.prog 47 #[.agg #[.slice A0_0 l0_0.length c0_0], .string a1] w fun e w' => ∃ v0_ : Value, e = .returned (.agg #[v0_]) ∧ Kd.R k67 67 w' w.heap.size (fun _ => True) v0_ r ∧ Below w.heap.size w w' := by
 have hu30 := Try.underlying30
 have hu67 := Try.underlying67
 have HR0_0 := AM hr0_0
 have HC0_0 := AM hc0_0
 clear hr0_0 hc0_0
 have HB := AM (Below.refl w.heap.size w)
 have H : (spec_l03Without.l0 k a1 0 l0_0 ([] : List (S67))) = some r := h
 clear h
 have H' := AM H
 clear H
 go_enter Try.func47, Try.ntmps47
 go_wp2_with (first | ((with_reducible refine gd 2 rfl ?_); refine bx (N := 2) (cs := #[.slice A0_0 l0_0.length c0_0]) (t := 30) ?_; intro gb196 hg w3 hbox hb; have BK196 := AM (hbox); have GW196 := AM (bs hg HB); have GE196 := AM (bs hg HB); replace HB := bq HB hb; clear hb hbox hg) | ((with_reducible refine gd 4 rfl ?_); refine bx (N := 4) (cs := #[.slice none 0 0]) (t := 30) ?_; intro gb197 hg w4 hbox hb; have BK197 := AM (hbox); have GW197 := AM (bt hg hS); have GE197 := AM (bt hg hS); replace HB := AM (below_step (hS) hb); have NB196_197 := AM (nl hg (bk BK196)); have NB197_196 := AM (ng hg (bk BK196)); replace BK196 := bw BK196 hb; clear hb hbox hg) | ((with_reducible refine gd 5 rfl ?_); refine bx (N := 5) (cs := #[.slice none 0 0]) (t := 30) ?_; intro gb198 hg w5 hbox hb; have BK198 := AM (hbox); have GW198 := AM (bt hg hS); have GE198 := AM (bt hg hS); replace HB := AM (below_step (hS) hb); have NB196_198 := AM (nl hg (bk BK196)); have NB198_196 := AM (ng hg (bk BK196)); replace BK196 := bw BK196 hb; have NB197_198 := AM (nl hg (bk BK197)); have NB198_197 := AM (ng hg (bk BK197)); replace BK197 := bw BK197 hb; clear hb hbox hg; have hnb6 := NB198_196.out; have hnc6 := NB196_198.out; have hnb7 := NB198_197.out; have hnc7 := NB197_198.out; have hcz8_0 := bv BK198 0 (.slice none 0 0); have hfz8_0 := bz BK198 0))
 go_loopg [6] k (fun kq v6 w' => ∃ (x6_1 : Int) (x199000_1 : List (S67)) (u199000 : Value), v6 = .int .i64 x6_1 ∧ Aside0 (spec_l03Without.l0 kq a1 x6_1 l0_0 x199000_1 = some r) ∧ Aside0 (kq ≤ k) ∧ Aside0 (Kd.R k67 67 w' w.heap.size (fun _ => True) u199000 x199000_1) ∧ Aside0 (w'.heap[gb196]? = some (.cells #[(.slice A0_0 l0_0.length c0_0)] 30 (0, 0))) ∧ Aside0 (w'.heap[gb197]? = some (.cells #[(.slice none 0 0)] 30 (0, 0))) ∧ Aside0 (w'.heap[gb198]? = some (.cells #[u199000] 30 (0, 0))) ∧ Aside0 (Below w.heap.size w w'))
 case atStart => exact ⟨(0), (([] : List (S67))), (.slice none 0 0), sf, H', ⟨Nat.le_refl _⟩, ⟨by first | exact Kd.R_nil _ _ _ _ _ | exact Kd.N_nil _ _ _ _ _ | exact Kd.V_nil _ _ _ _ _ | exact Kd.Q_nil _ _ _ _ _ | exact Kd.S_nil _ _ _ _ _⟩, ⟨be⟩, ⟨be⟩, ⟨by (with_reducible repeat first | apply aN | apply aD | apply aA); refine blk_put (cs := #[.slice none 0 0]) ?_ 0 _ rfl; exact bk BK198⟩, ⟨hS⟩⟩
 clear H'
 obtain ⟨x6_1, x199000_1, u199000, rfl, HA, HK1, HO_199000, BK196, BK197, BK198, HB⟩ := hrel
 cases gk with
 | zero => exact absurd HA.out (by simp [spec_l03Without.l0])
 | succ k1 =>
  have H := HA.out
  clear HA
  simp only [spec_l03Without.l0] at H
  by_cases c9 : x6_1 < (l0_0.length : Int)
  ·rw [if_pos c9] at H
   have c9b0 : decide (x6_1 < (l0_0.length : Int)) = true := decide_eq_true c9
   clear c9
   by_cases c10 : 0 ≤ x6_1
   ·rw [if_pos c10] at H
    have c10b0 : decide (0 ≤ x6_1) = true := decide_eq_true c10
    clear c10
    by_cases c11 : ((rd_T67 l0_0 x6_1).f0).toList = a1.toList
    ·rw [if_pos c11] at H
     have c11b0 : (((rd_T67 l0_0 x6_1).f0).toList == a1.toList) = true := beq_iff_eq.mpr c11
     have c11b1 : (((rd_T67 l0_0 x6_1).f0).toList != a1.toList) = false := bne_eq_false_iff_eq.mpr c11
     clear c11
     have H' := AM H
     clear H
     have hnb12 := NB196_197.out
     have hnc12 := NB197_196.out
     have hnb13 := NB196_198.out
     have hnc13 := NB198_196.out
     have hcz14_0 := bv BK196 0 (.slice A0_0 l0_0.length c0_0)
     have hfz14_0 := bz BK196 0
     have p199 : 0 ≤ (x6_1 : Int) := od
     have q199 : x6_1 < (l0_0.length : Int) := od
     obtain ⟨ad199, e199, hx199_0, hx199_1, hx199_2⟩ := at_T67 HR0_0.out x6_1 p199 q199
     cases e199
     replace hx199_0 := cl HB hx199_0
     replace hx199_1 := cl HB hx199_1
     replace hx199_2 := cl HB hx199_2
     replace p199 := eq_true p199
     replace q199 := eq_true q199
     go_wp2
     go_roundg k1
     case measure => have := HK1.out; omega
     case rel => exact ⟨(wrap64 (x6_1 + 1)), (x199000_1), (u199000), sf, H', ⟨by have := HK1.out; omega⟩, ⟨by exact HO_199000.out⟩, ⟨bk BK196⟩, ⟨bk BK197⟩, ⟨bk BK198⟩, ⟨hS⟩⟩
    rw [if_neg c11] at H
    have c11b0 : (((rd_T67 l0_0 x6_1).f0).toList == a1.toList) = false := beq_eq_false_iff_ne.mpr c11
    have c11b1 : (((rd_T67 l0_0 x6_1).f0).toList != a1.toList) = true := bne_iff_ne.mpr c11
    by_cases c15 : x199000_1.length < 3518437208883
    ·rw [if_pos c15] at H
     have LMc15 := AM c15
     clear c15
     obtain ⟨y201, hy201⟩ : ∃ y_ : List (S67), y_ = (x199000_1 ++ [(⟨(rd_T67 l0_0 x6_1).f0, (rd_T67 l0_0 x6_1).f1, (rd_T67 l0_0 x6_1).f2⟩ : S67)]) := ⟨_, rfl⟩
     replace H : (spec_l03Without.l0 k1 a1 (wrap64 (x6_1 + 1)) l0_0 y201) = some r := by first | (rw [hy201]; with_reducible exact H) | (have H2_ := (Option.bind_some _ _).symm.trans H; rw [hy201]; with_reducible exact H2_) | (have H2_ := (Option.bind_some _ _).symm.trans H; with_reducible exact H2_) | with_reducible exact H | (rw [hy201]; exact H) | exact H
     have Ny201 := AM hy201
     clear hy201
     have H' := AM H
     clear H
     have hnb16 := NB196_197.out
     have hnc16 := NB197_196.out
     have hnb17 := NB196_198.out
     have hnc17 := NB198_196.out
     have hcz18_0 := bv BK196 0 (.slice A0_0 l0_0.length c0_0)
     have hfz18_0 := bz BK196 0
     have p199 : 0 ≤ (x6_1 : Int) := od
     have q199 : x6_1 < (l0_0.length : Int) := od
     obtain ⟨ad199, e199, hx199_0, hx199_1, hx199_2⟩ := at_T67 HR0_0.out x6_1 p199 q199
     cases e199
     replace hx199_0 := cl HB hx199_0
     replace hx199_1 := cl HB hx199_1
     replace hx199_2 := cl HB hx199_2
     replace p199 := eq_true p199
     replace q199 := eq_true q199
     try go_wp2
     replace HO_199000 := AM (Kd.R_drew HO_199000.out)
     replace BK196 := AM (blk_drew BK196.out)
     replace BK197 := AM (blk_drew BK197.out)
     replace BK198 := AM (blk_drew BK198.out)
     replace HB := AM (below_drew1 HB.out)
     have p200 : 0 ≤ (x6_1 : Int) := od
     have q200 : x6_1 < (l0_0.length : Int) := od
     obtain ⟨ad200, e200, hx200_0, hx200_1, hx200_2⟩ := at_T67 HR0_0.out x6_1 p200 q200
     have hw200_2 := hx200_2
     have hw200_1 := hx200_1
     have hw200_0 := hx200_0
     obtain rfl : ad199 = ad200 := (by injection e200)
     replace hx200_0 := cl HB hx200_0
     replace hx200_1 := cl HB hx200_1
     replace hx200_2 := cl HB hx200_2
     replace p200 := eq_true p200
     replace q200 := eq_true q200
     refine start_ (n := 11) (S := fun w' => w'.cell? ⟨gb198, 0, none⟩ = some (u199000) ∧ w'.cell? ⟨gb196, 0, none⟩ = some (.slice (some ad199) l0_0.length c0_0) ∧ w'.cell? (ad199.add ((x6_1).toNat * 3)) = some (.string ((rd_T67 l0_0 x6_1).f0)) ∧ w'.cell? ⟨(ad199.add ((x6_1).toNat * 3)).block, (ad199.add ((x6_1).toNat * 3)).off + 1, none⟩ = some (.string ((rd_T67 l0_0 x6_1).f1)) ∧ w'.cell? ⟨(ad199.add ((x6_1).toNat * 3)).block, (ad199.add ((x6_1).toNat * 3)).off + 2, none⟩ = some (.int .i64 ((rd_T67 l0_0 x6_1).f2))) (ds := [10]) #[false, false, false, false, false, false, false, false, false, false, false] (by kernel_rfl) rfl rfl ⟨bc BK198 0, bc BK196 0, (cl HB hw200_0), (cl HB hw200_1), (cl HB hw200_2)⟩ (fun hHeld => ?_); refine with_tabW spec_l03Without.tab6 spec_l03Without.bits6 (fun HT_ HW_ => ?_)
     generalize wr.drew = w19 at HO_199000 BK196 BK197 BK198 HB hx200_0 hx200_1 hx200_2 hHeld ⊢
     refine pure_ (i := 0) (N := some 23) (v := ?_) (a' := ?_) #[true, false, false, false, false, false, false, false, false, false, false] rfl rfl (any_of HT_.out (by kernel_rfl)) (fun _ _ _ h => h) (Or.inl ⟨by rfl, ?_⟩) ?_ ?_
     rotate_left
     ·intro w'
      go_simp
      with_reducible rfl
     rotate_left
     ·simp only [Act.put, qT, q0, qS, i64_w, i32_w]
      rfl
     refine pure_ (i := 2) (N := some 25) (v := ?_) (a' := ?_) #[true, false, true, false, false, false, false, false, false, false, false] rfl rfl (any_of HT_.out (by kernel_rfl)) (fun _ _ _ h => h) (Or.inl ⟨by rfl, ?_⟩) ?_ ?_
     rotate_left
     ·intro w'
      go_simp
      with_reducible rfl
     rotate_left
     ·simp only [Act.put, qT, q0, qS, i64_w, i32_w]
      rfl
     refine pure_ (i := 4) (N := some 27) (v := ?_) (a' := ?_) #[true, false, true, false, true, false, false, false, false, false, false] rfl rfl (any_of HT_.out (by kernel_rfl)) (fun _ _ _ h => h) (Or.inl ⟨by rfl, ?_⟩) ?_ ?_
     rotate_left
     ·intro w'
      go_simp
      with_reducible rfl
     rotate_left
     ·simp only [Act.put, qT, q0, qS, i64_w, i32_w]
      rfl
     refine take_ (i := 1) (N := some 24) (v := ?_) (a' := ?_) #[true, true, true, false, true, false, false, false, false, false, false] rfl rfl (take_ofW HT_.out HW_.out (by kernel_rfl)) (fun _ _ _ h => h) (Or.inl ⟨by rfl, ?_⟩) hHeld ?_ ?_
     rotate_left
     ·rintro w' ⟨s0, s1, s2, s3, s4⟩
      go_simp
      with_reducible rfl
     rotate_left
     ·simp only [Act.put, qT, q0, qS, i64_w, i32_w]
      rfl
     refine take_ (i := 3) (N := some 26) (v := ?_) (a' := ?_) #[true, true, true, true, true, false, false, false, false, false, false] rfl rfl (take_ofW HT_.out HW_.out (by kernel_rfl)) (fun _ _ _ h => h) (Or.inl ⟨by rfl, ?_⟩) hHeld ?_ ?_
     rotate_left
     ·rintro w' ⟨s0, s1, s2, s3, s4⟩
      go_simp
      with_reducible rfl
     rotate_left
     ·simp only [Act.put, qT, q0, qS, i64_w, i32_w]
      rfl
     refine pure_ (i := 5) (N := some 28) (v := ?_) (a' := ?_) #[true, true, true, true, true, true, false, false, false, false, false] rfl rfl (any_of HT_.out (by kernel_rfl)) (fun _ _ _ h => h) (Or.inl ⟨by rfl, ?_⟩) ?_ ?_
     rotate_left
     ·intro w'
      go_simp
      with_reducible rfl
     rotate_left
     ·simp only [Act.put, qT, q0, qS, i64_w, i32_w]
      rfl
     refine take_ (i := 6) (N := some 29) (v := ?_) (a' := ?_) #[true, true, true, true, true, true, true, false, false, false, false] rfl rfl (take_ofW HT_.out HW_.out (by kernel_rfl)) (fun _ _ _ h => h) (Or.inl ⟨by rfl, ?_⟩) hHeld ?_ ?_
     rotate_left
     ·rintro w' ⟨s0, s1, s2, s3, s4⟩
      go_simp
      with_reducible rfl
     rotate_left
     ·simp only [Act.put, qT, q0, qS, i64_w, i32_w]
      rfl
     refine one_ (i := 7) (N := some 30) #[true, true, true, true, true, true, true, true, false, false, false] rfl rfl (one_of HT_.out (by kernel_rfl)) (by decide) (fun K hK => ?_)
     refine value_ (w1 := ?_) (v := ?_) (by rfl) rfl ?_ ?_
     rotate_left 2
     ·go_simp
      constructor
      ·rfl
      rfl
     refine hK.out _ _ ⟨(blk_cell (blk_alloc BK198.out _) 0).trans rfl, (blk_cell (blk_alloc BK196.out _) 0).trans rfl, (World.cell?_alloc_lt _ _ _ (World.block_lt_of_cell? _ _ ((cl HB hw200_0)))).trans ((cl HB hw200_0)), (World.cell?_alloc_lt _ _ _ (World.block_lt_of_cell? _ _ ((cl HB hw200_1)))).trans ((cl HB hw200_1)), (World.cell?_alloc_lt _ _ _ (World.block_lt_of_cell? _ _ ((cl HB hw200_2)))).trans ((cl HB hw200_2))⟩ (fun hHeld => ?_)
     clear hK K
     refine norm_ (a' := ?_) ?_ ?_
     rotate_left
     ·show Act.put _ (some 30) _ = _
      simp only [Act.put, qT, q0, qS, i64_w, i32_w]
      rfl
     refine one_ (i := 8) (N := some 31) #[true, true, true, true, true, true, true, true, true, false, false] rfl rfl (one_of HT_.out (by kernel_rfl)) (by decide) (fun K hK => ?_)
     refine Kd.R_append_step k67 (w0 := w) w.heap.size (by rfl) (.tmp 24) (.tmp 30) 28 67 (.agg #[(.string ⟨#[]⟩), (.string ⟨#[]⟩), (.int .i64 0)]) 40 rfl Try.underlying28 info67 rfl (by decide) (by omega) u199000 x199000_1 (⟨(rd_T67 l0_0 x6_1).f0, (rd_T67 l0_0 x6_1).f1, (rd_T67 l0_0 x6_1).f2⟩ : S67) [.string ((rd_T67 l0_0 x6_1).f0), .string ((rd_T67 l0_0 x6_1).f1), .int .i64 ((rd_T67 l0_0 x6_1).f2)] (fun _ => True) (fun _ => False) rfl rfl ?aP (fun _ hk => hk.elim) ?aF ?aO ?aB ?aS ?aL ?_
     (case aP => exact k67_mkM _ _ _ (⟨(rd_T67 l0_0 x6_1).f0, (rd_T67 l0_0 x6_1).f1, (rd_T67 l0_0 x6_1).f2⟩ : S67))
     (case aB => exact (hS))
     (case aF => exact (fun _ _ => trivial))
     (case aO => exact (by exact HO_199000.out))
     (case aS => exact (below_size (hS)))
     (case aL => have := LMc15.out; omega)
     intro v202 w20 ho hb hg hat
     rw [← Ny201.out] at ho
     replace BK196 := AM (blk_grown (g := gb196) (o := .cells #[.slice (some ad199) l0_0.length c0_0] 30 (0, 0)) (bk BK196) hg (Kd.R_ne HO_199000.out BK196.out (by decide)))
     replace BK197 := AM (blk_grown (g := gb197) (o := .cells #[.slice none 0 0] 30 (0, 0)) (bk BK197) hg (Kd.R_ne HO_199000.out BK197.out (by decide)))
     replace BK198 := AM (blk_grown (g := gb198) (o := .cells #[u199000] 30 (0, 0)) (bk BK198) hg (Kd.R_ne HO_199000.out BK198.out (by decide)))
     replace HB := AM (hb)
     have HO203 := AM (ho)
     clear HO_199000
     clear ho hb hg hat
     obtain ⟨Ao21, co21, eo21⟩ := Kd.R_slice HO203.out
     (first | subst eo21 | (injection eo21 with f1_ f2_ f3_; have f4_ := f1_.symm; have f5_ := f3_.symm; clear f1_ f2_ f3_; subst f4_; subst f5_))
     refine hK.out _ _ ⟨bc BK198 0, bc BK196 0, (cl HB hw200_0), (cl HB hw200_1), (cl HB hw200_2)⟩ (fun hHeld => ?_)
     clear hK K
     refine norm_ (a' := ?_) ?_ ?_
     rotate_left
     ·show Act.put _ (some 31) _ = _
      simp only [Act.put, qT, q0, qS, i64_w, i32_w]
      rfl
     refine pure_ (i := 9) (N := some 32) (v := ?_) (a' := ?_) #[true, true, true, true, true, true, true, true, true, true, false] rfl rfl (any_of HT_.out (by kernel_rfl)) (fun _ _ _ h => h) (Or.inl ⟨by rfl, ?_⟩) ?_ ?_
     rotate_left
     ·intro w'
      go_simp
      with_reducible rfl
     rotate_left
     ·simp only [Act.put, qT, q0, qS, i64_w, i32_w]
      rfl
     refine last_ (i := 10) (N := none) #[true, true, true, true, true, true, true, true, true, true, true] rfl rfl (one_of HT_.out (by kernel_rfl)) (by decide) (fun K hK => ?_)
     have hs22 : w20.cell? ⟨gb198, 0, none⟩ = some (u199000) := bc BK198 0
     have hfs22 := bz BK198 0
     have hns22_0 := NB196_198.out
     have hns22_1 := NB197_198.out
     have hms22_0 := NB198_196.out
     have hms22_1 := NB198_197.out
     refine skip_ (w1 := ?_) (by rfl) rfl ?_ ?_
     rotate_left
     ·go_simp
      rfl
     refine hK.out _ _ ?_
     clear hK K
     refine done_ (done_of HT_.out (by kernel_rfl)) ?_
     try go_wp2
     go_roundg k1
     case measure => have := HK1.out; omega
     case rel => exact ⟨(wrap64 (x6_1 + 1)), (y201), (.slice Ao21 y201.length co21), sf, H', ⟨by have := HK1.out; omega⟩, ⟨by exact Kd.R_mono (Kd.R_far (p := ⟨gb198, 0, none⟩) (Kd.R_types HO203.out BK198.out (by decide)) (fun _ hk => hk.2) (.slice Ao21 y201.length co21)) (fun _ hk => trivial)⟩, ⟨be⟩, ⟨be⟩, ⟨by (with_reducible repeat first | apply aN | apply aD | apply aA); refine blk_put (cs := #[u199000]) ?_ 0 _ rfl; exact bk BK198⟩, ⟨hS⟩⟩
    rw [if_neg c15] at H
    exact absurd H (by simp)
   rw [if_neg c10] at H
   exact absurd H (by simp)
  rw [if_neg c9] at H
  have c9b0 : decide (x6_1 < (l0_0.length : Int)) = false := decide_eq_false c9
  clear c9
  obtain rfl := Option.some.inj H
  have hnb23 := NB196_197.out
  have hnc23 := NB197_196.out
  have hnb24 := NB196_198.out
  have hnc24 := NB198_196.out
  have hcz25_0 := bv BK196 0 (.slice A0_0 l0_0.length c0_0)
  have hfz25_0 := bz BK196 0
  have hnb26 := NB198_197.out
  have hnc26 := NB197_198.out
  have hcz27_0 := bv BK198 0 (u199000)
  have hfz27_0 := bz BK198 0
  obtain ⟨Ao28, co28, eo28⟩ := Kd.R_slice HO_199000.out
  subst eo28
  have hcz29_0 := bv BK197 0 (.slice none 0 0)
  have hfz29_0 := bz BK197 0
  go_wp2
  refine bodyPost_ret (results_cell_row rfl _ _ gb197 30 #[.slice Ao28 x199000_1.length co28] (0, 0) _ rfl (by (with_reducible repeat first | apply aN | apply aD | apply aA); refine blk_put (cs := #[.slice none 0 0]) ?_ 0 _ rfl; exact bk BK197) Try.underlying30 rfl (by kernel_rfl)) rfl ?_
  exact ⟨_, er, by exact Kd.R_mono (Kd.R_far (p := ⟨gb197, 0, none⟩) (Kd.R_types HO_199000.out BK197.out (by decide)) (fun _ hk => hk.2) (.slice Ao28 x199000_1.length co28)) (fun _ hk => trivial), hS⟩

end Go.Proofs.Ytnkldnkolcighaa.XFnExactCutActs
