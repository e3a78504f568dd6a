/- What the functions of a law compute, and that their calls compute it: written by a program of this session (xprint.py), which turns the kit print at a few places. -/
import Derived.Test.YtnkldnkolcighaaXFnExactDoActsx0
namespace Go.Proofs.Ytnkldnkolcighaa.XFnExactDoActs
open Go.RowKit Go.Proofs.YtnkldnkolcighaaU.PrintWords Go.Proofs.YtnkldnkolcighaaU.PrintLast Go.Proofs.YtnkldnkolcighaaU.PrintMore
attribute [local go_sem] max2_int min2_int max_two min_two max_three min_three max_four min_four str_geq str_gtr   -- for this text's walks alone
set_option linter.unusedVariables false
set_option linter.unusedSimpArgs false

/-! ### spec_l03Without: function 47 -/
def spec_l03Without.l0 : Nat → ByteArray → Int → List (S67) → List (S67) → Option ((List (S67)))
 | 0, _, _, _, _ => none
 | k + 1, x1, x6, x173000, x175000 => if x6 < (x173000.length : Int) then (if 0 ≤ x6 then (if ((rd_T67 x173000 x6).f0).toList = x1.toList then (spec_l03Without.l0 k x1 (wrap64 (x6 + 1)) x173000 x175000) else (if x175000.length < 3518437208883 then (spec_l03Without.l0 k x1 (wrap64 (x6 + 1)) x173000 (x175000 ++ [(⟨(rd_T67 x173000 x6).f0, (rd_T67 x173000 x6).f1, (rd_T67 x173000 x6).f2⟩ : S67)])) else (none))) else (none)) else (some x175000)
def spec_l03Without.f (k : Nat) (l0_0 : List (S67)) (a1 : ByteArray) : Option ((List (S67))) := spec_l03Without.l0 k a1 0 l0_0 ([] : List (S67))
theorem spec_l03Without.mono_l : ∀ k, (∀ y0 y1 y2 y3, LeO (spec_l03Without.l0 k y0 y1 y2 y3) (spec_l03Without.l0 (k + 1) y0 y1 y2 y3))
 | 0 => fun _ _ _ _ r h => by simp [spec_l03Without.l0] at h
 | k + 1 => by
  have ih0 := spec_l03Without.mono_l k
  intro y0 y1 y2 y3
  unfold spec_l03Without.l0
  repeat' first
  | (with_reducible exact LeO.refl _)
  | (with_reducible refine LeO.ite ?_ ?_)
  | (with_reducible refine LeO.bind ?_ (fun _ => ?_))
  | exact ih0 _ _ _ _
  | exact LeO.none _
  | refine LeO.ite ?_ ?_
  | refine LeO.bind ?_ (fun _ => ?_)
theorem spec_l03Without.mono : ∀ a0 a1 k, LeO (spec_l03Without.f k a0 a1) (spec_l03Without.f (k + 1) a0 a1) := by
 intro a0 a1 k
 have ih0 := spec_l03Without.mono_l k
 unfold spec_l03Without.f
 repeat' first
   | (with_reducible exact LeO.refl _)
   | (with_reducible refine LeO.ite ?_ ?_)
   | (with_reducible refine LeO.bind ?_ (fun _ => ?_))
   | exact ih0 _ _ _ _
   | exact LeO.none _
   | refine LeO.ite ?_ ?_
   | refine LeO.bind ?_ (fun _ => ?_)
def spec_l03Without.T6 : Bool × List (List Nat × List Nat) := (true, [([], []), ([0], [0]), ([], []), ([2], [2]), ([], []), ([3, 4], [3, 4]), ([5], [5]), ([6], [6]), ([1, 7], [1, 7]), ([0, 1, 2, 3, 4, 5, 6, 7, 8], []), ([9, 8, 8, 0, 1, 2, 3, 4, 5, 6, 7, 8], [8, 9])])
def spec_l03Without.B6 : List Nat := [0, 1, 0, 4, 0, 28, 60, 124, 255, 511, 1023]
theorem spec_l03Without.tab6 : rtab .any (opsOf Try.f47 6) = spec_l03Without.T6 := by kernel_rfl
theorem spec_l03Without.bits6 : waitsOk spec_l03Without.T6.2 spec_l03Without.B6 = true := by kernel_rfl
set_option maxHeartbeats 8000000 in
set_option maxRecDepth 100000 in
theorem spec_l03Without.calls (k : Nat) (A0_0 : Option Addr) (c0_0 : Nat) (l0_0 : List (S67)) (a1 : ByteArray) (r : List (S67)) (w : World) (hr0_0 : Kd.C k67 w A0_0 l0_0.length l0_0) (hc0_0 : l0_0.length ≤ c0_0) (h : spec_l03Without.f k l0_0 a1 = some r) :
  Calls Try.prog 47 #[.agg #[.slice A0_0 l0_0.length c0_0], .string a1] w fun e w' => ∃ v0_ : Value, e = .returned (.agg #[v0_]) ∧ Kd.R k67 67 w' w.heap.size (fun _ => True) v0_ r ∧ Below w.heap.size w w' := by
 have hu30 := Try.underlying30
 have hu67 := Try.underlying67
 have HR0_0 := AM hr0_0
 have HC0_0 := AM hc0_0
 clear hr0_0 hc0_0
 have HB := AM (Below.refl w.heap.size w)
 have H : (spec_l03Without.l0 k a1 0 l0_0 ([] : List (S67))) = some r := h
 clear h
 have H' := AM H
 clear H
 go_enter Try.func47, Try.ntmps47
 go_wp2_with (first | ((with_reducible refine gate_dst (N := 2) rfl ?_); refine bx (N := 2) (cs := #[.slice A0_0 l0_0.length c0_0]) (t := 30) ?_; intro gb172 hg w3 hbox hb; have n0_ := AM (below_step (hB HB) hb); have n1_ := AM (hbox); have n2_ := AM (bs hg HB); have n3_ := AM (bs hg HB); clear HB; have HB := n0_; have BK172 := n1_; have GW172 := n2_; have GE172 := n3_; clear n0_ n1_ n2_ n3_; clear hb hbox hg) | ((with_reducible refine gate_dst (N := 4) rfl ?_); refine bx (N := 4) (cs := #[.slice none 0 0]) (t := 30) ?_; intro gb173 hg w4 hbox hb; have n0_ := AM (blk_below (bk BK172) hb); have n1_ := AM (below_step (hS) hb); have n2_ := AM (hbox); have n3_ := AM (bt hg hS); have n4_ := AM (bt hg hS); have n5_ := AM (nl hg (bk BK172)); have n6_ := AM (ng hg (bk BK172)); clear BK172; clear HB; have BK172 := n0_; have HB := n1_; have BK173 := n2_; have GW173 := n3_; have GE173 := n4_; have NB172_173 := n5_; have NB173_172 := n6_; clear n0_ n1_ n2_ n3_ n4_ n5_ n6_; clear hb hbox hg) | ((with_reducible refine gate_dst (N := 5) rfl ?_); refine bx (N := 5) (cs := #[.slice none 0 0]) (t := 30) ?_; intro gb174 hg w5 hbox hb; have n0_ := AM (blk_below (bk BK172) hb); have n1_ := AM (blk_below (bk BK173) hb); have n2_ := AM (below_step (hS) hb); have n3_ := AM (hbox); have n4_ := AM (bt hg hS); have n5_ := AM (bt hg hS); have n6_ := AM (nl hg (bk BK172)); have n7_ := AM (ng hg (bk BK172)); have n8_ := AM (nl hg (bk BK173)); have n9_ := AM (ng hg (bk BK173)); clear BK172; clear BK173; clear HB; have BK172 := n0_; have BK173 := n1_; have HB := n2_; have BK174 := n3_; have GW174 := n4_; have GE174 := n5_; have NB172_174 := n6_; have NB174_172 := n7_; have NB173_174 := n8_; have NB174_173 := n9_; clear n0_ n1_ n2_ n3_ n4_ n5_ n6_ n7_ n8_ n9_; clear hb hbox hg; have hnb6 := NB174_172.out; have hnc6 := NB172_174.out; have hnb7 := NB174_173.out; have hnc7 := NB173_174.out; have hcz8_0 : w5.cell? ⟨gb174, 0, none⟩ = some (.slice none 0 0) := bc BK174 0; have hfz8_0 := blk_frozen BK174.out 0))
 go_loopg [6] k (fun kq v6 w' => ∃ (x6_1 : Int) (x175000_1 : List (S67)) (u175000 : Value), v6 = .int .i64 x6_1 ∧ Aside0 (spec_l03Without.l0 kq a1 x6_1 l0_0 x175000_1 = some r) ∧ Aside0 (kq ≤ k) ∧ Aside0 (Kd.R k67 67 w' w.heap.size (fun _ => True) u175000 x175000_1) ∧ Aside0 (w'.heap[gb172]? = some (.cells #[(.slice A0_0 l0_0.length c0_0)] 30 (0, 0))) ∧ Aside0 (w'.heap[gb173]? = some (.cells #[(.slice none 0 0)] 30 (0, 0))) ∧ Aside0 (w'.heap[gb174]? = some (.cells #[u175000] 30 (0, 0))) ∧ Aside0 (Below w.heap.size w w'))
 case atStart => exact ⟨(0), (([] : List (S67))), (.slice none 0 0), (by first | rfl | (simp; done) | (simp [*]; done)), H', ⟨Nat.le_refl _⟩, ⟨by first | exact Kd.R_nil _ _ _ _ _ | exact Kd.N_nil _ _ _ _ _ | exact Kd.V_nil _ _ _ _ _ | exact Kd.Q_nil _ _ _ _ _ | exact Kd.S_nil _ _ _ _ _⟩, ⟨be⟩, ⟨be⟩, ⟨by (with_reducible repeat first | apply aN | apply aD | apply aA); refine blk_put (cs := #[.slice none 0 0]) ?_ 0 _ rfl; exact bk BK174⟩, ⟨hS⟩⟩
 clear H'
 obtain ⟨x6_1, x175000_1, u175000, rfl, HA, HK1, HO_175000, BK172, BK173, BK174, HB⟩ := hrel
 cases gk with
 | zero => exact absurd HA.out (by simp [spec_l03Without.l0])
 | succ k1 =>
  have H := HA.out
  clear HA
  simp only [spec_l03Without.l0] at H
  by_cases c9 : x6_1 < (l0_0.length : Int)
  ·rw [if_pos c9] at H
   have c9b0 : decide (x6_1 < (l0_0.length : Int)) = true := decide_eq_true c9
   clear c9
   by_cases c10 : 0 ≤ x6_1
   ·rw [if_pos c10] at H
    have c10b0 : decide (0 ≤ x6_1) = true := decide_eq_true c10
    clear c10
    by_cases c11 : ((rd_T67 l0_0 x6_1).f0).toList = a1.toList
    ·rw [if_pos c11] at H
     have c11b0 : (((rd_T67 l0_0 x6_1).f0).toList == a1.toList) = true := beq_iff_eq.mpr c11
     have c11b1 : (((rd_T67 l0_0 x6_1).f0).toList != a1.toList) = false := bne_eq_false_iff_eq.mpr c11
     clear c11
     have H' := AM H
     clear H
     have hnb12 := NB172_173.out
     have hnc12 := NB173_172.out
     have hnb13 := NB172_174.out
     have hnc13 := NB174_172.out
     have hcz14_0 : wr.cell? ⟨gb172, 0, none⟩ = some (.slice A0_0 l0_0.length c0_0) := bc BK172 0
     have hfz14_0 := blk_frozen BK172.out 0
     have p175 : 0 ≤ (x6_1 : Int) := od
     have q175 : x6_1 < (l0_0.length : Int) := od
     obtain ⟨ad175, e175, hx175_0, hx175_1, hx175_2⟩ := at_T67 HR0_0.out x6_1 p175 q175
     cases e175
     replace hx175_0 := cl HB hx175_0
     replace hx175_1 := cl HB hx175_1
     replace hx175_2 := cl HB hx175_2
     replace p175 := eq_true p175
     replace q175 := eq_true q175
     go_wp2
     go_roundg k1
     case measure => have := HK1.out; omega
     case rel => exact ⟨(wrap64 (x6_1 + 1)), (x175000_1), (u175000), (by first | rfl | (simp; done) | (simp [*]; done)), H', ⟨by have := HK1.out; omega⟩, ⟨by exact HO_175000.out⟩, ⟨bk BK172⟩, ⟨bk BK173⟩, ⟨bk BK174⟩, ⟨hS⟩⟩
    rw [if_neg c11] at H
    have c11b0 : (((rd_T67 l0_0 x6_1).f0).toList == a1.toList) = false := beq_eq_false_iff_ne.mpr c11
    have c11b1 : (((rd_T67 l0_0 x6_1).f0).toList != a1.toList) = true := bne_iff_ne.mpr c11
    by_cases c15 : x175000_1.length < 3518437208883
    ·rw [if_pos c15] at H
     have LMc15 := AM c15
     clear c15
     obtain ⟨y177, hy177⟩ : ∃ y_ : List (S67), y_ = (x175000_1 ++ [(⟨(rd_T67 l0_0 x6_1).f0, (rd_T67 l0_0 x6_1).f1, (rd_T67 l0_0 x6_1).f2⟩ : S67)]) := ⟨_, rfl⟩
     replace H : (spec_l03Without.l0 k1 a1 (wrap64 (x6_1 + 1)) l0_0 y177) = some r := by first | (rw [hy177]; with_reducible exact H) | (have H2_ := (Option.bind_some _ _).symm.trans H; rw [hy177]; with_reducible exact H2_) | (have H2_ := (Option.bind_some _ _).symm.trans H; with_reducible exact H2_) | with_reducible exact H | (rw [hy177]; exact H) | exact H
     have Ny177 := AM hy177
     clear hy177
     have H' := AM H
     clear H
     have hnb16 := NB172_173.out
     have hnc16 := NB173_172.out
     have hnb17 := NB172_174.out
     have hnc17 := NB174_172.out
     have hcz18_0 : wr.cell? ⟨gb172, 0, none⟩ = some (.slice A0_0 l0_0.length c0_0) := bc BK172 0
     have hfz18_0 := blk_frozen BK172.out 0
     have p175 : 0 ≤ (x6_1 : Int) := od
     have q175 : x6_1 < (l0_0.length : Int) := od
     obtain ⟨ad175, e175, hx175_0, hx175_1, hx175_2⟩ := at_T67 HR0_0.out x6_1 p175 q175
     cases e175
     replace hx175_0 := cl HB hx175_0
     replace hx175_1 := cl HB hx175_1
     replace hx175_2 := cl HB hx175_2
     replace p175 := eq_true p175
     replace q175 := eq_true q175
     try go_wp2
     have n0_ := AM (Kd.R_drew HO_175000.out)
     have n1_ := AM (blk_drew BK172.out)
     have n2_ := AM (blk_drew BK173.out)
     have n3_ := AM (blk_drew BK174.out)
     have n4_ := AM (below_drew1 HB.out)
     clear HO_175000
     clear BK172
     clear BK173
     clear BK174
     clear HB
     have HO_175000 := n0_
     have BK172 := n1_
     have BK173 := n2_
     have BK174 := n3_
     have HB := n4_
     clear n0_ n1_ n2_ n3_ n4_
     have p176 : 0 ≤ (x6_1 : Int) := od
     have q176 : x6_1 < (l0_0.length : Int) := od
     obtain ⟨ad176, e176, hx176_0, hx176_1, hx176_2⟩ := at_T67 HR0_0.out x6_1 p176 q176
     have hw176_2 := hx176_2
     have hw176_1 := hx176_1
     have hw176_0 := hx176_0
     obtain rfl : ad175 = ad176 := (by injection e176)
     replace hx176_0 := cl HB hx176_0
     replace hx176_1 := cl HB hx176_1
     replace hx176_2 := cl HB hx176_2
     replace p176 := eq_true p176
     replace q176 := eq_true q176
     refine start_ (n := 11) (S := fun w' => w'.cell? ⟨gb174, 0, none⟩ = some (u175000) ∧ w'.cell? ⟨gb172, 0, none⟩ = some (.slice (some ad175) l0_0.length c0_0) ∧ w'.cell? (ad175.add ((x6_1).toNat * 3)) = some (.string ((rd_T67 l0_0 x6_1).f0)) ∧ w'.cell? ⟨(ad175.add ((x6_1).toNat * 3)).block, (ad175.add ((x6_1).toNat * 3)).off + 1, none⟩ = some (.string ((rd_T67 l0_0 x6_1).f1)) ∧ w'.cell? ⟨(ad175.add ((x6_1).toNat * 3)).block, (ad175.add ((x6_1).toNat * 3)).off + 2, none⟩ = some (.int .i64 ((rd_T67 l0_0 x6_1).f2))) (ds := [10]) #[false, false, false, false, false, false, false, false, false, false, false] (by kernel_rfl) rfl rfl ⟨bc BK174 0, bc BK172 0, (cl HB hw176_0), (cl HB hw176_1), (cl HB hw176_2)⟩ (fun hHeld => ?_); refine with_tabW spec_l03Without.tab6 spec_l03Without.bits6 (fun HT_ HW_ => ?_)
     generalize wr.drew = w19 at HO_175000 BK172 BK173 BK174 HB hx176_0 hx176_1 hx176_2 hHeld ⊢
     refine pure_ (i := 0) (N := some 23) (v := ?_) (a' := ?_) #[true, false, false, false, false, false, false, false, false, false, false] rfl rfl (any_of HT_.out (by kernel_rfl)) (fun _ _ _ h => h) (Or.inl ⟨by rfl, ?_⟩) ?_ ?_
     rotate_left
     ·intro w'
      go_simp
      with_reducible rfl
     rotate_left
     ·simp only [Act.put, qT, q0, qS, i64_w, i32_w]
      rfl
     refine pure_ (i := 2) (N := some 25) (v := ?_) (a' := ?_) #[true, false, true, false, false, false, false, false, false, false, false] rfl rfl (any_of HT_.out (by kernel_rfl)) (fun _ _ _ h => h) (Or.inl ⟨by rfl, ?_⟩) ?_ ?_
     rotate_left
     ·intro w'
      go_simp
      with_reducible rfl
     rotate_left
     ·simp only [Act.put, qT, q0, qS, i64_w, i32_w]
      rfl
     refine pure_ (i := 4) (N := some 27) (v := ?_) (a' := ?_) #[true, false, true, false, true, false, false, false, false, false, false] rfl rfl (any_of HT_.out (by kernel_rfl)) (fun _ _ _ h => h) (Or.inl ⟨by rfl, ?_⟩) ?_ ?_
     rotate_left
     ·intro w'
      go_simp
      with_reducible rfl
     rotate_left
     ·simp only [Act.put, qT, q0, qS, i64_w, i32_w]
      rfl
     refine take_ (i := 1) (N := some 24) (v := ?_) (a' := ?_) #[true, true, true, false, true, false, false, false, false, false, false] rfl rfl (take_ofW HT_.out HW_.out (by kernel_rfl)) (fun _ _ _ h => h) (Or.inl ⟨by rfl, ?_⟩) hHeld ?_ ?_
     rotate_left
     ·rintro w' ⟨s0, s1, s2, s3, s4⟩
      go_simp
      with_reducible rfl
     rotate_left
     ·simp only [Act.put, qT, q0, qS, i64_w, i32_w]
      rfl
     refine take_ (i := 3) (N := some 26) (v := ?_) (a' := ?_) #[true, true, true, true, true, false, false, false, false, false, false] rfl rfl (take_ofW HT_.out HW_.out (by kernel_rfl)) (fun _ _ _ h => h) (Or.inl ⟨by rfl, ?_⟩) hHeld ?_ ?_
     rotate_left
     ·rintro w' ⟨s0, s1, s2, s3, s4⟩
      go_simp
      with_reducible rfl
     rotate_left
     ·simp only [Act.put, qT, q0, qS, i64_w, i32_w]
      rfl
     refine pure_ (i := 5) (N := some 28) (v := ?_) (a' := ?_) #[true, true, true, true, true, true, false, false, false, false, false] rfl rfl (any_of HT_.out (by kernel_rfl)) (fun _ _ _ h => h) (Or.inl ⟨by rfl, ?_⟩) ?_ ?_
     rotate_left
     ·intro w'
      go_simp
      with_reducible rfl
     rotate_left
     ·simp only [Act.put, qT, q0, qS, i64_w, i32_w]
      rfl
     refine take_ (i := 6) (N := some 29) (v := ?_) (a' := ?_) #[true, true, true, true, true, true, true, false, false, false, false] rfl rfl (take_ofW HT_.out HW_.out (by kernel_rfl)) (fun _ _ _ h => h) (Or.inl ⟨by rfl, ?_⟩) hHeld ?_ ?_
     rotate_left
     ·rintro w' ⟨s0, s1, s2, s3, s4⟩
      go_simp
      with_reducible rfl
     rotate_left
     ·simp only [Act.put, qT, q0, qS, i64_w, i32_w]
      rfl
     refine one_ (i := 7) (N := some 30) #[true, true, true, true, true, true, true, true, false, false, false] rfl rfl (one_of HT_.out (by kernel_rfl)) (by decide) (fun K hK => ?_)
     refine value_ (w1 := ?_) (v := ?_) (by rfl) rfl ?_ ?_
     rotate_left 2
     ·go_simp
      constructor
      ·rfl
      rfl
     refine hK.out _ _ ⟨(blk_cell (blk_alloc BK174.out _) 0).trans rfl, (blk_cell (blk_alloc BK172.out _) 0).trans rfl, (World.cell?_alloc_lt _ _ _ (World.block_lt_of_cell? _ _ ((cl HB hw176_0)))).trans ((cl HB hw176_0)), (World.cell?_alloc_lt _ _ _ (World.block_lt_of_cell? _ _ ((cl HB hw176_1)))).trans ((cl HB hw176_1)), (World.cell?_alloc_lt _ _ _ (World.block_lt_of_cell? _ _ ((cl HB hw176_2)))).trans ((cl HB hw176_2))⟩ (fun hHeld => ?_)
     clear hK K
     refine norm_ (a' := ?_) ?_ ?_
     rotate_left
     ·show Act.put _ (some 30) _ = _
      simp only [Act.put, qT, q0, qS, i64_w, i32_w]
      rfl
     refine one_ (i := 8) (N := some 31) #[true, true, true, true, true, true, true, true, true, false, false] rfl rfl (one_of HT_.out (by kernel_rfl)) (by decide) (fun K hK => ?_)
     refine Kd.R_append_step k67 (w0 := w) w.heap.size (by rfl) (.tmp 24) (.tmp 30) 28 67 (.agg #[(.string ⟨#[]⟩), (.string ⟨#[]⟩), (.int .i64 0)]) 40 rfl Try.underlying28 info67 rfl (by decide) (by omega) u175000 x175000_1 (⟨(rd_T67 l0_0 x6_1).f0, (rd_T67 l0_0 x6_1).f1, (rd_T67 l0_0 x6_1).f2⟩ : S67) [.string ((rd_T67 l0_0 x6_1).f0), .string ((rd_T67 l0_0 x6_1).f1), .int .i64 ((rd_T67 l0_0 x6_1).f2)] (fun _ => True) (fun _ => False) rfl rfl ?aP (fun _ hk => hk.elim) ?aF ?aO ?aB ?aS ?aL ?_
     (case aP => exact k67_mkM _ _ _ (⟨(rd_T67 l0_0 x6_1).f0, (rd_T67 l0_0 x6_1).f1, (rd_T67 l0_0 x6_1).f2⟩ : S67))
     (case aB => exact (hS))
     (case aF => exact (fun _ _ => trivial))
     (case aO => exact (by exact HO_175000.out))
     (case aS => exact (below_size (hS)))
     (case aL => have := LMc15.out; omega)
     intro v178 w20 ho hb hg hat
     rw [← Ny177.out] at ho
     have n0_ := AM (blk_grown (g := gb172) (o := .cells #[.slice (some ad175) l0_0.length c0_0] 30 (0, 0)) (bk BK172) hg (Kd.R_ne HO_175000.out BK172.out (by decide)))
     have n1_ := AM (blk_grown (g := gb173) (o := .cells #[.slice none 0 0] 30 (0, 0)) (bk BK173) hg (Kd.R_ne HO_175000.out BK173.out (by decide)))
     have n2_ := AM (blk_grown (g := gb174) (o := .cells #[u175000] 30 (0, 0)) (bk BK174) hg (Kd.R_ne HO_175000.out BK174.out (by decide)))
     have n3_ := AM (hb)
     have n4_ := AM (ho)
     clear BK172
     clear BK173
     clear BK174
     clear HB
     clear HO_175000
     have BK172 := n0_
     have BK173 := n1_
     have BK174 := n2_
     have HB := n3_
     have HO179 := n4_
     clear n0_ n1_ n2_ n3_ n4_
     clear ho hb hg hat
     obtain ⟨Ao21, co21, eo21⟩ := Kd.R_slice HO179.out
     (first | subst eo21 | (injection eo21 with f1_ f2_ f3_; have f4_ := f1_.symm; have f5_ := f3_.symm; clear f1_ f2_ f3_; subst f4_; subst f5_))
     refine hK.out _ _ ⟨bc BK174 0, bc BK172 0, (cl HB hw176_0), (cl HB hw176_1), (cl HB hw176_2)⟩ (fun hHeld => ?_)
     clear hK K
     refine norm_ (a' := ?_) ?_ ?_
     rotate_left
     ·show Act.put _ (some 31) _ = _
      simp only [Act.put, qT, q0, qS, i64_w, i32_w]
      rfl
     refine pure_ (i := 9) (N := some 32) (v := ?_) (a' := ?_) #[true, true, true, true, true, true, true, true, true, true, false] rfl rfl (any_of HT_.out (by kernel_rfl)) (fun _ _ _ h => h) (Or.inl ⟨by rfl, ?_⟩) ?_ ?_
     rotate_left
     ·intro w'
      go_simp
      with_reducible rfl
     rotate_left
     ·simp only [Act.put, qT, q0, qS, i64_w, i32_w]
      rfl
     refine last_ (i := 10) (N := none) #[true, true, true, true, true, true, true, true, true, true, true] rfl rfl (one_of HT_.out (by kernel_rfl)) (by decide) (fun K hK => ?_)
     have hs22 : w20.cell? ⟨gb174, 0, none⟩ = some (u175000) := bc BK174 0
     have hfs22 := blk_frozen BK174.out 0
     have hns22_0 := NB172_174.out
     have hns22_1 := NB173_174.out
     have hms22_0 := NB174_172.out
     have hms22_1 := NB174_173.out
     refine skip_ (w1 := ?_) (by rfl) rfl ?_ ?_
     rotate_left
     ·go_simp
      rfl
     refine hK.out _ _ ?_
     clear hK K
     refine done_ (done_of HT_.out (by kernel_rfl)) ?_
     try go_wp2
     go_roundg k1
     case measure => have := HK1.out; omega
     case rel => exact ⟨(wrap64 (x6_1 + 1)), (y177), (.slice Ao21 y177.length co21), (by first | rfl | (simp; done) | (simp [*]; done)), H', ⟨by have := HK1.out; omega⟩, ⟨by exact Kd.R_mono (Kd.R_far (p := ⟨gb174, 0, none⟩) (Kd.R_types HO179.out BK174.out (by decide)) (fun _ hk => hk.2) (.slice Ao21 y177.length co21)) (fun _ hk => trivial)⟩, ⟨be⟩, ⟨be⟩, ⟨by (with_reducible repeat first | apply aN | apply aD | apply aA); refine blk_put (cs := #[u175000]) ?_ 0 _ rfl; exact bk BK174⟩, ⟨hS⟩⟩
    rw [if_neg c15] at H
    exact absurd H (by simp)
   rw [if_neg c10] at H
   exact absurd H (by simp)
  rw [if_neg c9] at H
  have c9b0 : decide (x6_1 < (l0_0.length : Int)) = false := decide_eq_false c9
  clear c9
  obtain rfl := Option.some.inj H
  have hnb23 := NB172_173.out
  have hnc23 := NB173_172.out
  have hnb24 := NB172_174.out
  have hnc24 := NB174_172.out
  have hcz25_0 : wr.cell? ⟨gb172, 0, none⟩ = some (.slice A0_0 l0_0.length c0_0) := bc BK172 0
  have hfz25_0 := blk_frozen BK172.out 0
  have hnb26 := NB174_173.out
  have hnc26 := NB173_174.out
  have hcz27_0 : wr.cell? ⟨gb174, 0, none⟩ = some (u175000) := bc BK174 0
  have hfz27_0 := blk_frozen BK174.out 0
  obtain ⟨Ao28, co28, eo28⟩ := Kd.R_slice HO_175000.out
  subst eo28
  have hcz29_0 : wr.cell? ⟨gb173, 0, none⟩ = some (.slice none 0 0) := bc BK173 0
  have hfz29_0 := blk_frozen BK173.out 0
  go_wp2
  refine bodyPost_ret (results_cell_row rfl _ _ gb173 30 #[.slice Ao28 x175000_1.length co28] (0, 0) _ rfl (by (with_reducible repeat first | apply aN | apply aD | apply aA); refine blk_put (cs := #[.slice none 0 0]) ?_ 0 _ rfl; exact bk BK173) Try.underlying30 rfl (by kernel_rfl)) rfl ?_
  exact ⟨_, by first | rfl | (simp [errW_none, errW_some] <;> rfl) | (simp [*, errW_none, errW_some] <;> rfl), by exact Kd.R_mono (Kd.R_far (p := ⟨gb173, 0, none⟩) (Kd.R_types HO_175000.out BK173.out (by decide)) (fun _ hk => hk.2) (.slice Ao28 x175000_1.length co28)) (fun _ hk => trivial), hS⟩

end Go.Proofs.Ytnkldnkolcighaa.XFnExactDoActs
