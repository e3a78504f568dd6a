/- What the functions of a law compute, and that their calls compute it: written by a program of this session (xprint.py), which turns the kit print at a few places. -/
import Derived.Test.YtnkldnkolcighaaXFnExactDoActsx0
namespace Go.Proofs.Ytnkldnkolcighaa.XFnExactDoActs
open Go.RowKit Go.Proofs.YtnkldnkolcighaaU.PrintWords Go.Proofs.YtnkldnkolcighaaU.PrintLast Go.Proofs.YtnkldnkolcighaaU.PrintMore
attribute [local go_sem] max2_int min2_int max_two min_two max_three min_three max_four min_four str_geq str_gtr   -- for this text's walks alone
set_option linter.unusedVariables false
set_option linter.unusedSimpArgs false

/-! ### spec_l03Put: function 46 -/
mutual
def spec_l03Put.l0 : Nat → Int → List (S67) → ByteArray → ByteArray → Int → List (S67) → Option ((List (S67)))
 | 0, _, _, _, _, _, _ => none
 | k + 1, x6, x156000, x157000, x157001, x157002, x159000 => if x6 < (x156000.length : Int) then (if 0 ≤ x6 then (if (Op.bytesLess (((rd_T67 x156000 x6).f0).toList) x157000.toList) = true then (if x159000.length < 3518437208883 then (spec_l03Put.l0 k (wrap64 (x6 + 1)) x156000 x157000 x157001 x157002 (x159000 ++ [(⟨(rd_T67 x156000 x6).f0, (rd_T67 x156000 x6).f1, (rd_T67 x156000 x6).f2⟩ : S67)])) else (none)) else (spec_l03Put.l0 k (wrap64 (x6 + 1)) x156000 x157000 x157001 x157002 x159000)) else (none)) else (if x159000.length < 3518437208883 then (spec_l03Put.l1 k 0 x156000 x157000 x157001 x157002 (x159000 ++ [(⟨x157000, x157001, x157002⟩ : S67)])) else (none))
def spec_l03Put.l1 : Nat → Int → List (S67) → ByteArray → ByteArray → Int → List (S67) → Option ((List (S67)))
 | 0, _, _, _, _, _, _ => none
 | k + 1, x7, x156000, x157000, x157001, x157002, x159000 => if x7 < (x156000.length : Int) then (if 0 ≤ x7 then (if (Op.bytesLess x157000.toList (((rd_T67 x156000 x7).f0).toList)) = true then (if x159000.length < 3518437208883 then (spec_l03Put.l1 k (wrap64 (x7 + 1)) x156000 x157000 x157001 x157002 (x159000 ++ [(⟨(rd_T67 x156000 x7).f0, (rd_T67 x156000 x7).f1, (rd_T67 x156000 x7).f2⟩ : S67)])) else (none)) else (spec_l03Put.l1 k (wrap64 (x7 + 1)) x156000 x157000 x157001 x157002 x159000)) else (none)) else (some x159000)
end
def spec_l03Put.f (k : Nat) (l0_0 : List (S67)) (a1_0 : ByteArray) (a1_1 : ByteArray) (a1_2 : Int) : Option ((List (S67))) := spec_l03Put.l0 k 0 l0_0 a1_0 a1_1 a1_2 ([] : List (S67))
theorem spec_l03Put.mono_l : ∀ k, (∀ y0 y1 y2 y3 y4 y5, LeO (spec_l03Put.l0 k y0 y1 y2 y3 y4 y5) (spec_l03Put.l0 (k + 1) y0 y1 y2 y3 y4 y5)) ∧ (∀ y0 y1 y2 y3 y4 y5, LeO (spec_l03Put.l1 k y0 y1 y2 y3 y4 y5) (spec_l03Put.l1 (k + 1) y0 y1 y2 y3 y4 y5))
 | 0 => ⟨fun _ _ _ _ _ _ r h => by simp [spec_l03Put.l0] at h, fun _ _ _ _ _ _ r h => by simp [spec_l03Put.l1] at h⟩
 | k + 1 => by
  obtain ⟨ih0, ih1⟩ := spec_l03Put.mono_l k
  refine ⟨?_, ?_⟩
  ·intro y0 y1 y2 y3 y4 y5
   unfold spec_l03Put.l0
   repeat' first
   | (with_reducible exact LeO.refl _)
   | (with_reducible refine LeO.ite ?_ ?_)
   | (with_reducible refine LeO.bind ?_ (fun _ => ?_))
   | exact ih0 _ _ _ _ _ _
   | exact ih1 _ _ _ _ _ _
   | exact LeO.none _
   | refine LeO.ite ?_ ?_
   | refine LeO.bind ?_ (fun _ => ?_)
  intro y0 y1 y2 y3 y4 y5
  unfold spec_l03Put.l1
  repeat' first
  | (with_reducible exact LeO.refl _)
  | (with_reducible refine LeO.ite ?_ ?_)
  | (with_reducible refine LeO.bind ?_ (fun _ => ?_))
  | exact ih0 _ _ _ _ _ _
  | exact ih1 _ _ _ _ _ _
  | exact LeO.none _
  | refine LeO.ite ?_ ?_
  | refine LeO.bind ?_ (fun _ => ?_)
theorem spec_l03Put.mono : ∀ a0 a1 a2 a3 k, LeO (spec_l03Put.f k a0 a1 a2 a3) (spec_l03Put.f (k + 1) a0 a1 a2 a3) := by
 intro a0 a1 a2 a3 k
 obtain ⟨ih0, ih1⟩ := spec_l03Put.mono_l k
 unfold spec_l03Put.f
 repeat' first
   | (with_reducible exact LeO.refl _)
   | (with_reducible refine LeO.ite ?_ ?_)
   | (with_reducible refine LeO.bind ?_ (fun _ => ?_))
   | exact ih0 _ _ _ _ _ _
   | exact ih1 _ _ _ _ _ _
   | exact LeO.none _
   | refine LeO.ite ?_ ?_
   | refine LeO.bind ?_ (fun _ => ?_)
def spec_l03Put.T5 : Bool × List (List Nat × List Nat) := (true, [([], []), ([0], [0]), ([], []), ([1, 2], [1, 2]), ([3], [3]), ([4], [4]), ([], []), ([6], [6]), ([5, 7], [5, 7])])
def spec_l03Put.B5 : List Nat := [0, 1, 0, 7, 15, 31, 0, 64, 255]
theorem spec_l03Put.tab5 : rtab .any (opsOf Try.f46 5) = spec_l03Put.T5 := by kernel_rfl
theorem spec_l03Put.bits5 : waitsOk spec_l03Put.T5.2 spec_l03Put.B5 = true := by kernel_rfl
def spec_l03Put.T6 : Bool × List (List Nat × List Nat) := (true, [([], []), ([0], [0]), ([], []), ([2], [2]), ([], []), ([3, 4], [3, 4]), ([5], [5]), ([6], [6]), ([1, 7], [1, 7]), ([0, 1, 2, 3, 4, 5, 6, 7, 8], []), ([9, 8, 8, 0, 1, 2, 3, 4, 5, 6, 7, 8], [8, 9])])
def spec_l03Put.B6 : List Nat := [0, 1, 0, 4, 0, 28, 60, 124, 255, 511, 1023]
theorem spec_l03Put.tab6 : rtab .any (opsOf Try.f46 6) = spec_l03Put.T6 := by kernel_rfl
theorem spec_l03Put.bits6 : waitsOk spec_l03Put.T6.2 spec_l03Put.B6 = true := by kernel_rfl
def spec_l03Put.T11 : Bool × List (List Nat × List Nat) := (true, [([], []), ([0], [0]), ([], []), ([1, 2], [1, 2]), ([3], [3]), ([4], [4]), ([], []), ([6], [6]), ([5, 7], [5, 7])])
def spec_l03Put.B11 : List Nat := [0, 1, 0, 7, 15, 31, 0, 64, 255]
theorem spec_l03Put.tab11 : rtab .any (opsOf Try.f46 11) = spec_l03Put.T11 := by kernel_rfl
theorem spec_l03Put.bits11 : waitsOk spec_l03Put.T11.2 spec_l03Put.B11 = true := by kernel_rfl
def spec_l03Put.T12 : Bool × List (List Nat × List Nat) := (true, [([], []), ([0], [0]), ([], []), ([2], [2]), ([], []), ([3, 4], [3, 4]), ([5], [5]), ([6], [6]), ([1, 7], [1, 7]), ([0, 1, 2, 3, 4, 5, 6, 7, 8], []), ([9, 8, 8, 0, 1, 2, 3, 4, 5, 6, 7, 8], [8, 9])])
def spec_l03Put.B12 : List Nat := [0, 1, 0, 4, 0, 28, 60, 124, 255, 511, 1023]
theorem spec_l03Put.tab12 : rtab .any (opsOf Try.f46 12) = spec_l03Put.T12 := by kernel_rfl
theorem spec_l03Put.bits12 : waitsOk spec_l03Put.T12.2 spec_l03Put.B12 = true := by kernel_rfl
set_option maxHeartbeats 8000000 in
set_option maxRecDepth 100000 in
theorem spec_l03Put.calls (k : Nat) (A0_0 : Option Addr) (c0_0 : Nat) (l0_0 : List (S67)) (a1_0 : ByteArray) (a1_1 : ByteArray) (a1_2 : Int) (r : List (S67)) (w : World) (hr0_0 : Kd.C k67 w A0_0 l0_0.length l0_0) (hc0_0 : l0_0.length ≤ c0_0) (h : spec_l03Put.f k l0_0 a1_0 a1_1 a1_2 = some r) :
  Calls Try.prog 46 #[.agg #[.slice A0_0 l0_0.length c0_0], .agg #[.string a1_0, .string a1_1, .int .i64 a1_2]] w fun e w' => ∃ v0_ : Value, e = .returned (.agg #[v0_]) ∧ Kd.R k67 67 w' w.heap.size (fun _ => True) v0_ r ∧ Below w.heap.size w w' := by
 have hu30 := Try.underlying30
 have hu67 := Try.underlying67
 have HR0_0 := AM hr0_0
 have HC0_0 := AM hc0_0
 clear hr0_0 hc0_0
 have HB := AM (Below.refl w.heap.size w)
 have H : (spec_l03Put.l0 k 0 l0_0 a1_0 a1_1 a1_2 ([] : List (S67))) = some r := h
 clear h
 have H' := AM H
 clear H
 go_enter Try.func46, Try.ntmps46
 go_wp2_with (first | ((with_reducible refine gate_dst (N := 2) rfl ?_); refine bx (N := 2) (cs := #[.slice A0_0 l0_0.length c0_0]) (t := 30) ?_; intro gb155 hg w3 hbox hb; have n0_ := AM (below_step (hB HB) hb); have n1_ := AM (hbox); have n2_ := AM (bs hg HB); have n3_ := AM (bs hg HB); clear HB; have HB := n0_; have BK155 := n1_; have GW155 := n2_; have GE155 := n3_; clear n0_ n1_ n2_ n3_; clear hb hbox hg) | ((with_reducible refine gate_dst (N := 3) rfl ?_); refine bx (N := 3) (cs := #[.string a1_0, .string a1_1, .int .i64 a1_2]) (t := 67) ?_; intro gb156 hg w4 hbox hb; have n0_ := AM (blk_below (bk BK155) hb); have n1_ := AM (below_step (hS) hb); have n2_ := AM (hbox); have n3_ := AM (bt hg hS); have n4_ := AM (bt hg hS); have n5_ := AM (nl hg (bk BK155)); have n6_ := AM (ng hg (bk BK155)); clear BK155; clear HB; have BK155 := n0_; have HB := n1_; have BK156 := n2_; have GW156 := n3_; have GE156 := n4_; have NB155_156 := n5_; have NB156_155 := n6_; clear n0_ n1_ n2_ n3_ n4_ n5_ n6_; clear hb hbox hg) | ((with_reducible refine gate_dst (N := 4) rfl ?_); refine bx (N := 4) (cs := #[.slice none 0 0]) (t := 30) ?_; intro gb157 hg w5 hbox hb; have n0_ := AM (blk_below (bk BK155) hb); have n1_ := AM (blk_below (bk BK156) hb); have n2_ := AM (below_step (hS) hb); have n3_ := AM (hbox); have n4_ := AM (bt hg hS); have n5_ := AM (bt hg hS); have n6_ := AM (nl hg (bk BK155)); have n7_ := AM (ng hg (bk BK155)); have n8_ := AM (nl hg (bk BK156)); have n9_ := AM (ng hg (bk BK156)); clear BK155; clear BK156; clear HB; have BK155 := n0_; have BK156 := n1_; have HB := n2_; have BK157 := n3_; have GW157 := n4_; have GE157 := n5_; have NB155_157 := n6_; have NB157_155 := n7_; have NB156_157 := n8_; have NB157_156 := n9_; clear n0_ n1_ n2_ n3_ n4_ n5_ n6_ n7_ n8_ n9_; clear hb hbox hg) | ((with_reducible refine gate_dst (N := 5) rfl ?_); refine bx (N := 5) (cs := #[.slice none 0 0]) (t := 30) ?_; intro gb158 hg w6 hbox hb; have n0_ := AM (blk_below (bk BK155) hb); have n1_ := AM (blk_below (bk BK156) hb); have n2_ := AM (blk_below (bk BK157) hb); have n3_ := AM (below_step (hS) hb); have n4_ := AM (hbox); have n5_ := AM (bt hg hS); have n6_ := AM (bt hg hS); have n7_ := AM (nl hg (bk BK155)); have n8_ := AM (ng hg (bk BK155)); have n9_ := AM (nl hg (bk BK156)); have n10_ := AM (ng hg (bk BK156)); have n11_ := AM (nl hg (bk BK157)); have n12_ := AM (ng hg (bk BK157)); clear BK155; clear BK156; clear BK157; clear HB; have BK155 := n0_; have BK156 := n1_; have BK157 := n2_; have HB := n3_; have BK158 := n4_; have GW158 := n5_; have GE158 := n6_; have NB155_158 := n7_; have NB158_155 := n8_; have NB156_158 := n9_; have NB158_156 := n10_; have NB157_158 := n11_; have NB158_157 := n12_; clear n0_ n1_ n2_ n3_ n4_ n5_ n6_ n7_ n8_ n9_ n10_ n11_ n12_; clear hb hbox hg; have hnb7 := NB158_155.out; have hnc7 := NB155_158.out; have hnb8 := NB158_156.out; have hnc8 := NB156_158.out; have hnb9 := NB158_157.out; have hnc9 := NB157_158.out; have hcz10_0 : w6.cell? ⟨gb158, 0, none⟩ = some (.slice none 0 0) := bc BK158 0; have hfz10_0 := blk_frozen BK158.out 0))
 go_loopg [6] k (fun kq v6 w' => ∃ (x6_1 : Int) (x159000_1 : List (S67)) (u159000 : Value), v6 = .int .i64 x6_1 ∧ Aside0 (spec_l03Put.l0 kq x6_1 l0_0 a1_0 a1_1 a1_2 x159000_1 = some r) ∧ Aside0 (kq ≤ k) ∧ Aside0 (Kd.R k67 67 w' w.heap.size (fun k_ => k_ ≠ gb156) u159000 x159000_1) ∧ Aside0 (w'.heap[gb155]? = some (.cells #[(.slice A0_0 l0_0.length c0_0)] 30 (0, 0))) ∧ Aside0 (w'.heap[gb156]? = some (.cells #[.string a1_0, .string a1_1, .int .i64 a1_2] 67 (0, 0))) ∧ Aside0 (w'.heap[gb157]? = some (.cells #[(.slice none 0 0)] 30 (0, 0))) ∧ Aside0 (w'.heap[gb158]? = some (.cells #[u159000] 30 (0, 0))) ∧ Aside0 (Below w.heap.size w w'))
 case atStart => exact ⟨(0), (([] : List (S67))), (.slice none 0 0), (by first | rfl | (simp; done) | (simp [*]; done)), H', ⟨Nat.le_refl _⟩, ⟨by first | exact Kd.R_nil _ _ _ _ _ | exact Kd.N_nil _ _ _ _ _ | exact Kd.V_nil _ _ _ _ _ | exact Kd.Q_nil _ _ _ _ _ | exact Kd.S_nil _ _ _ _ _⟩, ⟨be⟩, ⟨be⟩, ⟨be⟩, ⟨by (with_reducible repeat first | apply aN | apply aD | apply aA); refine blk_put (cs := #[.slice none 0 0]) ?_ 0 _ rfl; exact bk BK158⟩, ⟨hS⟩⟩
 clear H'
 obtain ⟨x6_1, x159000_1, u159000, rfl, HA, HK1, HO_159000, BK155, BK156, BK157, BK158, HB⟩ := hrel
 cases gk with
 | zero => exact absurd HA.out (by simp [spec_l03Put.l0])
 | succ k1 =>
  have H := HA.out
  clear HA
  simp only [spec_l03Put.l0] at H
  by_cases c11 : x6_1 < (l0_0.length : Int)
  ·rw [if_pos c11] at H
   have c11b0 : decide (x6_1 < (l0_0.length : Int)) = true := decide_eq_true c11
   clear c11
   by_cases c12 : 0 ≤ x6_1
   ·rw [if_pos c12] at H
    have c12b0 : decide (0 ≤ x6_1) = true := decide_eq_true c12
    clear c12
    by_cases c13 : (Op.bytesLess (((rd_T67 l0_0 x6_1).f0).toList) a1_0.toList) = true
    ·rw [if_pos c13] at H
     have c13b0 : (Op.bytesLess (((rd_T67 l0_0 x6_1).f0).toList) a1_0.toList) = true := c13
     clear c13
     by_cases c14 : x159000_1.length < 3518437208883
     ·rw [if_pos c14] at H
      have LMc14 := AM c14
      clear c14
      obtain ⟨y161, hy161⟩ : ∃ y_ : List (S67), y_ = (x159000_1 ++ [(⟨(rd_T67 l0_0 x6_1).f0, (rd_T67 l0_0 x6_1).f1, (rd_T67 l0_0 x6_1).f2⟩ : S67)]) := ⟨_, rfl⟩
      replace H : (spec_l03Put.l0 k1 (wrap64 (x6_1 + 1)) l0_0 a1_0 a1_1 a1_2 y161) = some r := by first | (rw [hy161]; with_reducible exact H) | (have H2_ := (Option.bind_some _ _).symm.trans H; rw [hy161]; with_reducible exact H2_) | (have H2_ := (Option.bind_some _ _).symm.trans H; with_reducible exact H2_) | with_reducible exact H | (rw [hy161]; exact H) | exact H
      have Ny161 := AM hy161
      clear hy161
      have H' := AM H
      clear H
      have hnb15 := NB155_156.out
      have hnc15 := NB156_155.out
      have hnb16 := NB155_157.out
      have hnc16 := NB157_155.out
      have hnb17 := NB155_158.out
      have hnc17 := NB158_155.out
      have hcz18_0 : wr.cell? ⟨gb155, 0, none⟩ = some (.slice A0_0 l0_0.length c0_0) := bc BK155 0
      have hfz18_0 := blk_frozen BK155.out 0
      try go_wp2
      have n0_ := AM (Kd.R_drew HO_159000.out)
      have n1_ := AM (blk_drew BK155.out)
      have n2_ := AM (blk_drew BK156.out)
      have n3_ := AM (blk_drew BK157.out)
      have n4_ := AM (blk_drew BK158.out)
      have n5_ := AM (below_drew1 HB.out)
      clear HO_159000
      clear BK155
      clear BK156
      clear BK157
      clear BK158
      clear HB
      have HO_159000 := n0_
      have BK155 := n1_
      have BK156 := n2_
      have BK157 := n3_
      have BK158 := n4_
      have HB := n5_
      clear n0_ n1_ n2_ n3_ n4_ n5_
      have p159 : 0 ≤ (x6_1 : Int) := od
      have q159 : x6_1 < (l0_0.length : Int) := od
      obtain ⟨ad159, e159, hx159_0, hx159_1, hx159_2⟩ := at_T67 HR0_0.out x6_1 p159 q159
      have hw159_2 := hx159_2
      have hw159_1 := hx159_1
      have hw159_0 := hx159_0
      cases e159
      replace hx159_0 := cl HB hx159_0
      replace hx159_1 := cl HB hx159_1
      replace hx159_2 := cl HB hx159_2
      replace p159 := eq_true p159
      replace q159 := eq_true q159
      refine start_ (n := 9) (S := fun w' => w'.cell? ⟨gb155, 0, none⟩ = some (.slice (some ad159) l0_0.length c0_0) ∧ w'.cell? ⟨gb156, 0, none⟩ = some (.string a1_0) ∧ w'.cell? ⟨gb156, 1, none⟩ = some (.string a1_1) ∧ w'.cell? ⟨gb156, 2, none⟩ = some (.int .i64 a1_2) ∧ w'.cell? (ad159.add ((x6_1).toNat * 3)) = some (.string ((rd_T67 l0_0 x6_1).f0)) ∧ w'.cell? ⟨(ad159.add ((x6_1).toNat * 3)).block, (ad159.add ((x6_1).toNat * 3)).off + 1, none⟩ = some (.string ((rd_T67 l0_0 x6_1).f1)) ∧ w'.cell? ⟨(ad159.add ((x6_1).toNat * 3)).block, (ad159.add ((x6_1).toNat * 3)).off + 2, none⟩ = some (.int .i64 ((rd_T67 l0_0 x6_1).f2))) (ds := []) #[false, false, false, false, false, false, false, false, false] (by kernel_rfl) rfl rfl ⟨bc BK155 0, bc BK156 0, bc BK156 1, bc BK156 2, (cl HB hw159_0), (cl HB hw159_1), (cl HB hw159_2)⟩ (fun hHeld => ?_); refine with_tabW spec_l03Put.tab5 spec_l03Put.bits5 (fun HT_ HW_ => ?_)
      generalize wr.drew = w19 at HO_159000 BK155 BK156 BK157 BK158 HB hx159_0 hx159_1 hx159_2 hHeld ⊢
      refine pure_ (i := 0) (N := some 16) (v := ?_) (a' := ?_) #[true, false, false, false, false, false, false, false, false] rfl rfl (any_of HT_.out (by kernel_rfl)) (fun _ _ _ h => h) (Or.inl ⟨by rfl, ?_⟩) ?_ ?_
      rotate_left
      ·intro w'
       go_simp
       with_reducible rfl
      rotate_left
      ·simp only [Act.put, qT, q0, qS, i64_w, i32_w]
       rfl
      refine pure_ (i := 2) (N := some 18) (v := ?_) (a' := ?_) #[true, false, true, false, false, false, false, false, false] rfl rfl (any_of HT_.out (by kernel_rfl)) (fun _ _ _ h => h) (Or.inl ⟨by rfl, ?_⟩) ?_ ?_
      rotate_left
      ·intro w'
       go_simp
       with_reducible rfl
      rotate_left
      ·simp only [Act.put, qT, q0, qS, i64_w, i32_w]
       rfl
      refine pure_ (i := 6) (N := some 22) (v := ?_) (a' := ?_) #[true, false, true, false, false, false, true, false, false] rfl rfl (any_of HT_.out (by kernel_rfl)) (fun _ _ _ h => h) (Or.inl ⟨by rfl, ?_⟩) ?_ ?_
      rotate_left
      ·intro w'
       go_simp
       with_reducible rfl
      rotate_left
      ·simp only [Act.put, qT, q0, qS, i64_w, i32_w]
       rfl
      refine take_ (i := 1) (N := some 17) (v := ?_) (a' := ?_) #[true, true, true, false, false, false, true, false, false] rfl rfl (take_ofW HT_.out HW_.out (by kernel_rfl)) (fun _ _ _ h => h) (Or.inl ⟨by rfl, ?_⟩) hHeld ?_ ?_
      rotate_left
      ·rintro w' ⟨s0, s1, s2, s3, s4, s5, s6⟩
       go_simp
       with_reducible rfl
      rotate_left
      ·simp only [Act.put, qT, q0, qS, i64_w, i32_w]
       rfl
      refine pure_ (i := 3) (N := some 19) (v := ?_) (a' := ?_) #[true, true, true, true, false, false, true, false, false] rfl rfl (any_of HT_.out (by kernel_rfl)) (fun _ _ _ h => h) (Or.inl ⟨by rfl, ?_⟩) ?_ ?_
      rotate_left
      ·intro w'
       go_simp
       with_reducible rfl
      rotate_left
      ·simp only [Act.put, qT, q0, qS, i64_w, i32_w]
       rfl
      refine pure_ (i := 4) (N := some 20) (v := ?_) (a' := ?_) #[true, true, true, true, true, false, true, false, false] rfl rfl (any_of HT_.out (by kernel_rfl)) (fun _ _ _ h => h) (Or.inl ⟨by rfl, ?_⟩) ?_ ?_
      rotate_left
      ·intro w'
       go_simp
       with_reducible rfl
      rotate_left
      ·simp only [Act.put, qT, q0, qS, i64_w, i32_w]
       rfl
      refine take_ (i := 5) (N := some 21) (v := ?_) (a' := ?_) #[true, true, true, true, true, true, true, false, false] rfl rfl (take_ofW HT_.out HW_.out (by kernel_rfl)) (fun _ _ _ h => h) (Or.inl ⟨by rfl, ?_⟩) hHeld ?_ ?_
      rotate_left
      ·rintro w' ⟨s0, s1, s2, s3, s4, s5, s6⟩
       go_simp
       with_reducible rfl
      rotate_left
      ·simp only [Act.put, qT, q0, qS, i64_w, i32_w]
       rfl
      refine take_ (i := 7) (N := some 23) (v := ?_) (a' := ?_) #[true, true, true, true, true, true, true, true, false] rfl rfl (take_ofW HT_.out HW_.out (by kernel_rfl)) (fun _ _ _ h => h) (Or.inl ⟨by rfl, ?_⟩) hHeld ?_ ?_
      rotate_left
      ·rintro w' ⟨s0, s1, s2, s3, s4, s5, s6⟩
       go_simp
       with_reducible rfl
      rotate_left
      ·simp only [Act.put, qT, q0, qS, i64_w, i32_w]
       rfl
      refine pure_ (i := 8) (N := some 24) (v := ?_) (a' := ?_) #[true, true, true, true, true, true, true, true, true] rfl rfl (any_of HT_.out (by kernel_rfl)) (fun _ _ _ h => h) (Or.inl ⟨by rfl, ?_⟩) ?_ ?_
      rotate_left
      ·intro w'
       go_simp
       with_reducible rfl
      rotate_left
      ·simp only [Act.put, qT, q0, qS, i64_w, i32_w]
       rfl
      refine done_ (done_of HT_.out (by kernel_rfl)) ?_
      try go_wp2
      have n0_ := AM (Kd.R_drew HO_159000.out)
      have n1_ := AM (blk_drew BK155.out)
      have n2_ := AM (blk_drew BK156.out)
      have n3_ := AM (blk_drew BK157.out)
      have n4_ := AM (blk_drew BK158.out)
      have n5_ := AM (below_drew1 HB.out)
      clear HO_159000
      clear BK155
      clear BK156
      clear BK157
      clear BK158
      clear HB
      have HO_159000 := n0_
      have BK155 := n1_
      have BK156 := n2_
      have BK157 := n3_
      have BK158 := n4_
      have HB := n5_
      clear n0_ n1_ n2_ n3_ n4_ n5_
      have p160 : 0 ≤ (x6_1 : Int) := od
      have q160 : x6_1 < (l0_0.length : Int) := od
      obtain ⟨ad160, e160, hx160_0, hx160_1, hx160_2⟩ := at_T67 HR0_0.out x6_1 p160 q160
      have hw160_2 := hx160_2
      have hw160_1 := hx160_1
      have hw160_0 := hx160_0
      obtain rfl : ad159 = ad160 := (by injection e160)
      replace hx160_0 := cl HB hx160_0
      replace hx160_1 := cl HB hx160_1
      replace hx160_2 := cl HB hx160_2
      replace p160 := eq_true p160
      replace q160 := eq_true q160
      refine start_ (n := 11) (S := fun w' => w'.cell? ⟨gb158, 0, none⟩ = some (u159000) ∧ w'.cell? ⟨gb155, 0, none⟩ = some (.slice (some ad159) l0_0.length c0_0) ∧ w'.cell? (ad159.add ((x6_1).toNat * 3)) = some (.string ((rd_T67 l0_0 x6_1).f0)) ∧ w'.cell? ⟨(ad159.add ((x6_1).toNat * 3)).block, (ad159.add ((x6_1).toNat * 3)).off + 1, none⟩ = some (.string ((rd_T67 l0_0 x6_1).f1)) ∧ w'.cell? ⟨(ad159.add ((x6_1).toNat * 3)).block, (ad159.add ((x6_1).toNat * 3)).off + 2, none⟩ = some (.int .i64 ((rd_T67 l0_0 x6_1).f2))) (ds := [10]) #[false, false, false, false, false, false, false, false, false, false, false] (by kernel_rfl) rfl rfl ⟨bc BK158 0, bc BK155 0, (cl HB hw160_0), (cl HB hw160_1), (cl HB hw160_2)⟩ (fun hHeld => ?_); refine with_tabW spec_l03Put.tab6 spec_l03Put.bits6 (fun HT_ HW_ => ?_)
      generalize w19.drew = w20 at HO_159000 BK155 BK156 BK157 BK158 HB hx160_0 hx160_1 hx160_2 hHeld ⊢
      refine pure_ (i := 0) (N := some 25) (v := ?_) (a' := ?_) #[true, false, false, false, false, false, false, false, false, false, false] rfl rfl (any_of HT_.out (by kernel_rfl)) (fun _ _ _ h => h) (Or.inl ⟨by rfl, ?_⟩) ?_ ?_
      rotate_left
      ·intro w'
       go_simp
       with_reducible rfl
      rotate_left
      ·simp only [Act.put, qT, q0, qS, i64_w, i32_w]
       rfl
      refine pure_ (i := 2) (N := some 27) (v := ?_) (a' := ?_) #[true, false, true, false, false, false, false, false, false, false, false] rfl rfl (any_of HT_.out (by kernel_rfl)) (fun _ _ _ h => h) (Or.inl ⟨by rfl, ?_⟩) ?_ ?_
      rotate_left
      ·intro w'
       go_simp
       with_reducible rfl
      rotate_left
      ·simp only [Act.put, qT, q0, qS, i64_w, i32_w]
       rfl
      refine pure_ (i := 4) (N := some 29) (v := ?_) (a' := ?_) #[true, false, true, false, true, false, false, false, false, false, false] rfl rfl (any_of HT_.out (by kernel_rfl)) (fun _ _ _ h => h) (Or.inl ⟨by rfl, ?_⟩) ?_ ?_
      rotate_left
      ·intro w'
       go_simp
       with_reducible rfl
      rotate_left
      ·simp only [Act.put, qT, q0, qS, i64_w, i32_w]
       rfl
      refine take_ (i := 1) (N := some 26) (v := ?_) (a' := ?_) #[true, true, true, false, true, false, false, false, false, false, false] rfl rfl (take_ofW HT_.out HW_.out (by kernel_rfl)) (fun _ _ _ h => h) (Or.inl ⟨by rfl, ?_⟩) hHeld ?_ ?_
      rotate_left
      ·rintro w' ⟨s0, s1, s2, s3, s4⟩
       go_simp
       with_reducible rfl
      rotate_left
      ·simp only [Act.put, qT, q0, qS, i64_w, i32_w]
       rfl
      refine take_ (i := 3) (N := some 28) (v := ?_) (a' := ?_) #[true, true, true, true, true, false, false, false, false, false, false] rfl rfl (take_ofW HT_.out HW_.out (by kernel_rfl)) (fun _ _ _ h => h) (Or.inl ⟨by rfl, ?_⟩) hHeld ?_ ?_
      rotate_left
      ·rintro w' ⟨s0, s1, s2, s3, s4⟩
       go_simp
       with_reducible rfl
      rotate_left
      ·simp only [Act.put, qT, q0, qS, i64_w, i32_w]
       rfl
      refine pure_ (i := 5) (N := some 30) (v := ?_) (a' := ?_) #[true, true, true, true, true, true, false, false, false, false, false] rfl rfl (any_of HT_.out (by kernel_rfl)) (fun _ _ _ h => h) (Or.inl ⟨by rfl, ?_⟩) ?_ ?_
      rotate_left
      ·intro w'
       go_simp
       with_reducible rfl
      rotate_left
      ·simp only [Act.put, qT, q0, qS, i64_w, i32_w]
       rfl
      refine take_ (i := 6) (N := some 31) (v := ?_) (a' := ?_) #[true, true, true, true, true, true, true, false, false, false, false] rfl rfl (take_ofW HT_.out HW_.out (by kernel_rfl)) (fun _ _ _ h => h) (Or.inl ⟨by rfl, ?_⟩) hHeld ?_ ?_
      rotate_left
      ·rintro w' ⟨s0, s1, s2, s3, s4⟩
       go_simp
       with_reducible rfl
      rotate_left
      ·simp only [Act.put, qT, q0, qS, i64_w, i32_w]
       rfl
      refine one_ (i := 7) (N := some 32) #[true, true, true, true, true, true, true, true, false, false, false] rfl rfl (one_of HT_.out (by kernel_rfl)) (by decide) (fun K hK => ?_)
      refine value_ (w1 := ?_) (v := ?_) (by rfl) rfl ?_ ?_
      rotate_left 2
      ·go_simp
       constructor
       ·rfl
       rfl
      refine hK.out _ _ ⟨(blk_cell (blk_alloc BK158.out _) 0).trans rfl, (blk_cell (blk_alloc BK155.out _) 0).trans rfl, (World.cell?_alloc_lt _ _ _ (World.block_lt_of_cell? _ _ ((cl HB hw160_0)))).trans ((cl HB hw160_0)), (World.cell?_alloc_lt _ _ _ (World.block_lt_of_cell? _ _ ((cl HB hw160_1)))).trans ((cl HB hw160_1)), (World.cell?_alloc_lt _ _ _ (World.block_lt_of_cell? _ _ ((cl HB hw160_2)))).trans ((cl HB hw160_2))⟩ (fun hHeld => ?_)
      clear hK K
      refine norm_ (a' := ?_) ?_ ?_
      rotate_left
      ·show Act.put _ (some 32) _ = _
       simp only [Act.put, qT, q0, qS, i64_w, i32_w]
       rfl
      refine one_ (i := 8) (N := some 33) #[true, true, true, true, true, true, true, true, true, false, false] rfl rfl (one_of HT_.out (by kernel_rfl)) (by decide) (fun K hK => ?_)
      refine Kd.R_append_step k67 (w0 := w) w.heap.size (by rfl) (.tmp 26) (.tmp 32) 28 67 (.agg #[(.string ⟨#[]⟩), (.string ⟨#[]⟩), (.int .i64 0)]) 40 rfl Try.underlying28 info67 rfl (by decide) (by omega) u159000 x159000_1 (⟨(rd_T67 l0_0 x6_1).f0, (rd_T67 l0_0 x6_1).f1, (rd_T67 l0_0 x6_1).f2⟩ : S67) [.string ((rd_T67 l0_0 x6_1).f0), .string ((rd_T67 l0_0 x6_1).f1), .int .i64 ((rd_T67 l0_0 x6_1).f2)] (fun k_ => k_ ≠ gb156) (fun _ => False) rfl rfl ?aP (fun _ hk => hk.elim) ?aF ?aO ?aB ?aS ?aL ?_
      (case aP => exact k67_mkM _ _ _ (⟨(rd_T67 l0_0 x6_1).f0, (rd_T67 l0_0 x6_1).f1, (rd_T67 l0_0 x6_1).f2⟩ : S67))
      (case aB => exact (hS))
      (case aF => exact (fun k_ hk => Kd.freshB (g := gb156) (o := .cells #[.string a1_0, .string a1_1, .int .i64 a1_2] 67 (0, 0)) (bk BK156) k_ hk))
      (case aO => exact (by exact HO_159000.out))
      (case aS => exact (below_size (hS)))
      (case aL => have := LMc14.out; omega)
      intro v162 w21 ho hb hg hat
      rw [← Ny161.out] at ho
      have n0_ := AM (blk_grown (g := gb155) (o := .cells #[.slice (some ad159) l0_0.length c0_0] 30 (0, 0)) (bk BK155) hg (Kd.R_ne HO_159000.out BK155.out (by decide)))
      have n1_ := AM (blk_grown (g := gb156) (o := .cells #[.string a1_0, .string a1_1, .int .i64 a1_2] 67 (0, 0)) (bk BK156) hg (Kd.R_away HO_159000.out (fun _ hk => hk)))
      have n2_ := AM (blk_grown (g := gb157) (o := .cells #[.slice none 0 0] 30 (0, 0)) (bk BK157) hg (Kd.R_ne HO_159000.out BK157.out (by decide)))
      have n3_ := AM (blk_grown (g := gb158) (o := .cells #[u159000] 30 (0, 0)) (bk BK158) hg (Kd.R_ne HO_159000.out BK158.out (by decide)))
      have n4_ := AM (hb)
      have n5_ := AM (ho)
      clear BK155
      clear BK156
      clear BK157
      clear BK158
      clear HB
      clear HO_159000
      have BK155 := n0_
      have BK156 := n1_
      have BK157 := n2_
      have BK158 := n3_
      have HB := n4_
      have HO163 := n5_
      clear n0_ n1_ n2_ n3_ n4_ n5_
      clear ho hb hg hat
      obtain ⟨Ao22, co22, eo22⟩ := Kd.R_slice HO163.out
      (first | subst eo22 | (injection eo22 with f1_ f2_ f3_; have f4_ := f1_.symm; have f5_ := f3_.symm; clear f1_ f2_ f3_; subst f4_; subst f5_))
      refine hK.out _ _ ⟨bc BK158 0, bc BK155 0, (cl HB hw160_0), (cl HB hw160_1), (cl HB hw160_2)⟩ (fun hHeld => ?_)
      clear hK K
      refine norm_ (a' := ?_) ?_ ?_
      rotate_left
      ·show Act.put _ (some 33) _ = _
       simp only [Act.put, qT, q0, qS, i64_w, i32_w]
       rfl
      refine pure_ (i := 9) (N := some 34) (v := ?_) (a' := ?_) #[true, true, true, true, true, true, true, true, true, true, false] rfl rfl (any_of HT_.out (by kernel_rfl)) (fun _ _ _ h => h) (Or.inl ⟨by rfl, ?_⟩) ?_ ?_
      rotate_left
      ·intro w'
       go_simp
       with_reducible rfl
      rotate_left
      ·simp only [Act.put, qT, q0, qS, i64_w, i32_w]
       rfl
      refine last_ (i := 10) (N := none) #[true, true, true, true, true, true, true, true, true, true, true] rfl rfl (one_of HT_.out (by kernel_rfl)) (by decide) (fun K hK => ?_)
      have hs23 : w21.cell? ⟨gb158, 0, none⟩ = some (u159000) := bc BK158 0
      have hfs23 := blk_frozen BK158.out 0
      have hns23_0 := NB155_158.out
      have hns23_1 := NB156_158.out
      have hns23_2 := NB157_158.out
      have hms23_0 := NB158_155.out
      have hms23_1 := NB158_156.out
      have hms23_2 := NB158_157.out
      refine skip_ (w1 := ?_) (by rfl) rfl ?_ ?_
      rotate_left
      ·go_simp
       rfl
      refine hK.out _ _ ?_
      clear hK K
      refine done_ (done_of HT_.out (by kernel_rfl)) ?_
      try go_wp2
      go_roundg k1
      case measure => have := HK1.out; omega
      case rel => exact ⟨(wrap64 (x6_1 + 1)), (y161), (.slice Ao22 y161.length co22), (by first | rfl | (simp; done) | (simp [*]; done)), H', ⟨by have := HK1.out; omega⟩, ⟨by exact Kd.R_mono (Kd.R_far (p := ⟨gb158, 0, none⟩) (Kd.R_types HO163.out BK158.out (by decide)) (fun _ hk => hk.2) (.slice Ao22 y161.length co22)) (fun _ hk => hk.1)⟩, ⟨be⟩, ⟨be⟩, ⟨be⟩, ⟨by (with_reducible repeat first | apply aN | apply aD | apply aA); refine blk_put (cs := #[u159000]) ?_ 0 _ rfl; exact bk BK158⟩, ⟨hS⟩⟩
     rw [if_neg c14] at H
     exact absurd H (by simp)
    rw [if_neg c13] at H
    have c13b0 : (Op.bytesLess (((rd_T67 l0_0 x6_1).f0).toList) a1_0.toList) = false := by simpa using c13
    clear c13
    have H' := AM H
    clear H
    have hnb24 := NB155_156.out
    have hnc24 := NB156_155.out
    have hnb25 := NB155_157.out
    have hnc25 := NB157_155.out
    have hnb26 := NB155_158.out
    have hnc26 := NB158_155.out
    have hcz27_0 : wr.cell? ⟨gb155, 0, none⟩ = some (.slice A0_0 l0_0.length c0_0) := bc BK155 0
    have hfz27_0 := blk_frozen BK155.out 0
    try go_wp2
    have n0_ := AM (Kd.R_drew HO_159000.out)
    have n1_ := AM (blk_drew BK155.out)
    have n2_ := AM (blk_drew BK156.out)
    have n3_ := AM (blk_drew BK157.out)
    have n4_ := AM (blk_drew BK158.out)
    have n5_ := AM (below_drew1 HB.out)
    clear HO_159000
    clear BK155
    clear BK156
    clear BK157
    clear BK158
    clear HB
    have HO_159000 := n0_
    have BK155 := n1_
    have BK156 := n2_
    have BK157 := n3_
    have BK158 := n4_
    have HB := n5_
    clear n0_ n1_ n2_ n3_ n4_ n5_
    have p159 : 0 ≤ (x6_1 : Int) := od
    have q159 : x6_1 < (l0_0.length : Int) := od
    obtain ⟨ad159, e159, hx159_0, hx159_1, hx159_2⟩ := at_T67 HR0_0.out x6_1 p159 q159
    have hw159_2 := hx159_2
    have hw159_1 := hx159_1
    have hw159_0 := hx159_0
    cases e159
    replace hx159_0 := cl HB hx159_0
    replace hx159_1 := cl HB hx159_1
    replace hx159_2 := cl HB hx159_2
    replace p159 := eq_true p159
    replace q159 := eq_true q159
    refine start_ (n := 9) (S := fun w' => w'.cell? ⟨gb155, 0, none⟩ = some (.slice (some ad159) l0_0.length c0_0) ∧ w'.cell? ⟨gb156, 0, none⟩ = some (.string a1_0) ∧ w'.cell? ⟨gb156, 1, none⟩ = some (.string a1_1) ∧ w'.cell? ⟨gb156, 2, none⟩ = some (.int .i64 a1_2) ∧ w'.cell? (ad159.add ((x6_1).toNat * 3)) = some (.string ((rd_T67 l0_0 x6_1).f0)) ∧ w'.cell? ⟨(ad159.add ((x6_1).toNat * 3)).block, (ad159.add ((x6_1).toNat * 3)).off + 1, none⟩ = some (.string ((rd_T67 l0_0 x6_1).f1)) ∧ w'.cell? ⟨(ad159.add ((x6_1).toNat * 3)).block, (ad159.add ((x6_1).toNat * 3)).off + 2, none⟩ = some (.int .i64 ((rd_T67 l0_0 x6_1).f2))) (ds := []) #[false, false, false, false, false, false, false, false, false] (by kernel_rfl) rfl rfl ⟨bc BK155 0, bc BK156 0, bc BK156 1, bc BK156 2, (cl HB hw159_0), (cl HB hw159_1), (cl HB hw159_2)⟩ (fun hHeld => ?_); refine with_tabW spec_l03Put.tab5 spec_l03Put.bits5 (fun HT_ HW_ => ?_)
    generalize wr.drew = w28 at HO_159000 BK155 BK156 BK157 BK158 HB hx159_0 hx159_1 hx159_2 hHeld ⊢
    refine pure_ (i := 0) (N := some 16) (v := ?_) (a' := ?_) #[true, false, false, false, false, false, false, false, false] rfl rfl (any_of HT_.out (by kernel_rfl)) (fun _ _ _ h => h) (Or.inl ⟨by rfl, ?_⟩) ?_ ?_
    rotate_left
    ·intro w'
     go_simp
     with_reducible rfl
    rotate_left
    ·simp only [Act.put, qT, q0, qS, i64_w, i32_w]
     rfl
    refine pure_ (i := 2) (N := some 18) (v := ?_) (a' := ?_) #[true, false, true, false, false, false, false, false, false] rfl rfl (any_of HT_.out (by kernel_rfl)) (fun _ _ _ h => h) (Or.inl ⟨by rfl, ?_⟩) ?_ ?_
    rotate_left
    ·intro w'
     go_simp
     with_reducible rfl
    rotate_left
    ·simp only [Act.put, qT, q0, qS, i64_w, i32_w]
     rfl
    refine pure_ (i := 6) (N := some 22) (v := ?_) (a' := ?_) #[true, false, true, false, false, false, true, false, false] rfl rfl (any_of HT_.out (by kernel_rfl)) (fun _ _ _ h => h) (Or.inl ⟨by rfl, ?_⟩) ?_ ?_
    rotate_left
    ·intro w'
     go_simp
     with_reducible rfl
    rotate_left
    ·simp only [Act.put, qT, q0, qS, i64_w, i32_w]
     rfl
    refine take_ (i := 1) (N := some 17) (v := ?_) (a' := ?_) #[true, true, true, false, false, false, true, false, false] rfl rfl (take_ofW HT_.out HW_.out (by kernel_rfl)) (fun _ _ _ h => h) (Or.inl ⟨by rfl, ?_⟩) hHeld ?_ ?_
    rotate_left
    ·rintro w' ⟨s0, s1, s2, s3, s4, s5, s6⟩
     go_simp
     with_reducible rfl
    rotate_left
    ·simp only [Act.put, qT, q0, qS, i64_w, i32_w]
     rfl
    refine pure_ (i := 3) (N := some 19) (v := ?_) (a' := ?_) #[true, true, true, true, false, false, true, false, false] rfl rfl (any_of HT_.out (by kernel_rfl)) (fun _ _ _ h => h) (Or.inl ⟨by rfl, ?_⟩) ?_ ?_
    rotate_left
    ·intro w'
     go_simp
     with_reducible rfl
    rotate_left
    ·simp only [Act.put, qT, q0, qS, i64_w, i32_w]
     rfl
    refine pure_ (i := 4) (N := some 20) (v := ?_) (a' := ?_) #[true, true, true, true, true, false, true, false, false] rfl rfl (any_of HT_.out (by kernel_rfl)) (fun _ _ _ h => h) (Or.inl ⟨by rfl, ?_⟩) ?_ ?_
    rotate_left
    ·intro w'
     go_simp
     with_reducible rfl
    rotate_left
    ·simp only [Act.put, qT, q0, qS, i64_w, i32_w]
     rfl
    refine take_ (i := 5) (N := some 21) (v := ?_) (a' := ?_) #[true, true, true, true, true, true, true, false, false] rfl rfl (take_ofW HT_.out HW_.out (by kernel_rfl)) (fun _ _ _ h => h) (Or.inl ⟨by rfl, ?_⟩) hHeld ?_ ?_
    rotate_left
    ·rintro w' ⟨s0, s1, s2, s3, s4, s5, s6⟩
     go_simp
     with_reducible rfl
    rotate_left
    ·simp only [Act.put, qT, q0, qS, i64_w, i32_w]
     rfl
    refine take_ (i := 7) (N := some 23) (v := ?_) (a' := ?_) #[true, true, true, true, true, true, true, true, false] rfl rfl (take_ofW HT_.out HW_.out (by kernel_rfl)) (fun _ _ _ h => h) (Or.inl ⟨by rfl, ?_⟩) hHeld ?_ ?_
    rotate_left
    ·rintro w' ⟨s0, s1, s2, s3, s4, s5, s6⟩
     go_simp
     with_reducible rfl
    rotate_left
    ·simp only [Act.put, qT, q0, qS, i64_w, i32_w]
     rfl
    refine pure_ (i := 8) (N := some 24) (v := ?_) (a' := ?_) #[true, true, true, true, true, true, true, true, true] rfl rfl (any_of HT_.out (by kernel_rfl)) (fun _ _ _ h => h) (Or.inl ⟨by rfl, ?_⟩) ?_ ?_
    rotate_left
    ·intro w'
     go_simp
     with_reducible rfl
    rotate_left
    ·simp only [Act.put, qT, q0, qS, i64_w, i32_w]
     rfl
    refine done_ (done_of HT_.out (by kernel_rfl)) ?_
    try go_wp2
    go_roundg k1
    case measure => have := HK1.out; omega
    case rel => exact ⟨(wrap64 (x6_1 + 1)), (x159000_1), (u159000), (by first | rfl | (simp; done) | (simp [*]; done)), H', ⟨by have := HK1.out; omega⟩, ⟨by exact HO_159000.out⟩, ⟨bk BK155⟩, ⟨bk BK156⟩, ⟨bk BK157⟩, ⟨bk BK158⟩, ⟨hS⟩⟩
   rw [if_neg c12] at H
   exact absurd H (by simp)
  rw [if_neg c11] at H
  have c11b0 : decide (x6_1 < (l0_0.length : Int)) = false := decide_eq_false c11
  clear c11
  by_cases c29 : x159000_1.length < 3518437208883
  ·rw [if_pos c29] at H
   have LMc29 := AM c29
   clear c29
   obtain ⟨y164, hy164⟩ : ∃ y_ : List (S67), y_ = (x159000_1 ++ [(⟨a1_0, a1_1, a1_2⟩ : S67)]) := ⟨_, rfl⟩
   replace H : (spec_l03Put.l1 k1 0 l0_0 a1_0 a1_1 a1_2 y164) = some r := by first | (rw [hy164]; with_reducible exact H) | (have H2_ := (Option.bind_some _ _).symm.trans H; rw [hy164]; with_reducible exact H2_) | (have H2_ := (Option.bind_some _ _).symm.trans H; with_reducible exact H2_) | with_reducible exact H | (rw [hy164]; exact H) | exact H
   have Ny164 := AM hy164
   clear hy164
   have H' := AM H
   clear H
   have hnb30 := NB155_156.out
   have hnc30 := NB156_155.out
   have hnb31 := NB155_157.out
   have hnc31 := NB157_155.out
   have hnb32 := NB155_158.out
   have hnc32 := NB158_155.out
   have hcz33_0 : wr.cell? ⟨gb155, 0, none⟩ = some (.slice A0_0 l0_0.length c0_0) := bc BK155 0
   have hfz33_0 := blk_frozen BK155.out 0
   have hnb34 := NB158_156.out
   have hnc34 := NB156_158.out
   have hnb35 := NB158_157.out
   have hnc35 := NB157_158.out
   have hcz36_0 : wr.cell? ⟨gb158, 0, none⟩ = some (u159000) := bc BK158 0
   have hfz36_0 := blk_frozen BK158.out 0
   have hnb37 := NB156_157.out
   have hnc37 := NB157_156.out
   have hcz38_0 : wr.cell? ⟨gb156, 0, none⟩ = some (.string a1_0) := bc BK156 0
   have hcz38_1 : wr.cell? ⟨gb156, 1, none⟩ = some (.string a1_1) := bc BK156 1
   have hcz38_2 : wr.cell? ⟨gb156, 2, none⟩ = some (.int .i64 a1_2) := bc BK156 2
   have hfz38_0 := blk_frozen BK156.out 0
   have hfz38_1 := blk_frozen BK156.out 1
   have hfz38_2 := blk_frozen BK156.out 2
   go_wp2_with (first | ((with_reducible refine gate_builtin (b := .append) (xs := #[.tmp 36, .tmp 38]) rfl ?_); at_builtin; refine Kd.R_append k67 (w0 := w) w.heap.size rfl (.tmp 36) (.tmp 38) 28 67 (.agg #[(.string ⟨#[]⟩), (.string ⟨#[]⟩), (.int .i64 0)]) 40 rfl Try.underlying28 info67 rfl (by decide) (by omega) u159000 x159000_1 (⟨a1_0, a1_1, a1_2⟩ : S67) [.string a1_0, .string a1_1, .int .i64 a1_2] (fun k_ => k_ ≠ gb156) (fun _ => False) rfl rfl ?aP (fun _ hk => hk.elim) ?aF ?aO ?aB ?aS ?aL ?_; (case aP => exact k67_mkM _ _ _ (⟨a1_0, a1_1, a1_2⟩ : S67)); (case aB => exact (hS)); (case aF => exact (fun k_ hk => Kd.freshB (g := gb156) (o := .cells #[.string a1_0, .string a1_1, .int .i64 a1_2] 67 (0, 0)) (bk BK156) k_ hk)); (case aO => exact (by exact HO_159000.out)); (case aS => exact (below_size (hS))); (case aL => have := LMc29.out; omega); intro v165 w39 ho hb hg hat; rw [← Ny164.out] at ho; have n0_ := AM (blk_grown (g := gb155) (o := .cells #[.slice A0_0 l0_0.length c0_0] 30 (0, 0)) (bk BK155) hg (Kd.R_ne HO_159000.out BK155.out (by decide))); have n1_ := AM (blk_grown (g := gb156) (o := .cells #[.string a1_0, .string a1_1, .int .i64 a1_2] 67 (0, 0)) (bk BK156) hg (Kd.R_away HO_159000.out (fun _ hk => hk))); have n2_ := AM (blk_grown (g := gb157) (o := .cells #[.slice none 0 0] 30 (0, 0)) (bk BK157) hg (Kd.R_ne HO_159000.out BK157.out (by decide))); have n3_ := AM (blk_grown (g := gb158) (o := .cells #[u159000] 30 (0, 0)) (bk BK158) hg (Kd.R_ne HO_159000.out BK158.out (by decide))); have n4_ := AM (hb); have n5_ := AM (ho); clear BK155; clear BK156; clear BK157; clear BK158; clear HB; clear HO_159000; have BK155 := n0_; have BK156 := n1_; have BK157 := n2_; have BK158 := n3_; have HB := n4_; have HO166 := n5_; clear n0_ n1_ n2_ n3_ n4_ n5_; clear ho hb hg hat; obtain ⟨Ao40, co40, eo40⟩ := Kd.R_slice HO166.out; subst eo40; have hcz41_0 : w39.cell? ⟨gb158, 0, none⟩ = some (u159000) := bc BK158 0; have hfz41_0 := blk_frozen BK158.out 0))
   go_loopg [7] k1 (fun kq v7 w' => ∃ (x7_2 : Int) (x159000_2 : List (S67)) (u159000 : Value), v7 = .int .i64 x7_2 ∧ Aside0 (spec_l03Put.l1 kq x7_2 l0_0 a1_0 a1_1 a1_2 x159000_2 = some r) ∧ Aside0 (kq ≤ k1) ∧ Aside0 (Kd.R k67 67 w' w.heap.size (fun k_ => k_ ≠ gb156) u159000 x159000_2) ∧ Aside0 (w'.heap[gb155]? = some (.cells #[(.slice A0_0 l0_0.length c0_0)] 30 (0, 0))) ∧ Aside0 (w'.heap[gb156]? = some (.cells #[.string a1_0, .string a1_1, .int .i64 a1_2] 67 (0, 0))) ∧ Aside0 (w'.heap[gb157]? = some (.cells #[(.slice none 0 0)] 30 (0, 0))) ∧ Aside0 (w'.heap[gb158]? = some (.cells #[u159000] 30 (0, 0))) ∧ Aside0 (Below w.heap.size w w'))
   case atStart => exact ⟨(0), (y164), (.slice Ao40 y164.length co40), (by first | rfl | (simp; done) | (simp [*]; done)), H', ⟨Nat.le_refl _⟩, ⟨by exact Kd.R_mono (Kd.R_far (p := ⟨gb158, 0, none⟩) (Kd.R_types HO166.out BK158.out (by decide)) (fun _ hk => hk.2) (.slice Ao40 y164.length co40)) (fun _ hk => hk.1)⟩, ⟨be⟩, ⟨be⟩, ⟨be⟩, ⟨by (with_reducible repeat first | apply aN | apply aD | apply aA); refine blk_put (cs := #[u159000]) ?_ 0 _ rfl; exact bk BK158⟩, ⟨hS⟩⟩
   clear H'
   obtain ⟨x7_2, x159000_2, u159000, rfl, HA, HK2, HO_159000, BK155, BK156, BK157, BK158, HB⟩ := hrel
   cases gk with
   | zero => exact absurd HA.out (by simp [spec_l03Put.l1])
   | succ k2 =>
    have H := HA.out
    clear HA
    simp only [spec_l03Put.l1] at H
    by_cases c42 : x7_2 < (l0_0.length : Int)
    ·rw [if_pos c42] at H
     have c42b0 : decide (x7_2 < (l0_0.length : Int)) = true := decide_eq_true c42
     clear c42
     by_cases c43 : 0 ≤ x7_2
     ·rw [if_pos c43] at H
      have c43b0 : decide (0 ≤ x7_2) = true := decide_eq_true c43
      clear c43
      by_cases c44 : (Op.bytesLess a1_0.toList (((rd_T67 l0_0 x7_2).f0).toList)) = true
      ·rw [if_pos c44] at H
       have c44b0 : (Op.bytesLess a1_0.toList (((rd_T67 l0_0 x7_2).f0).toList)) = true := c44
       clear c44
       by_cases c45 : x159000_2.length < 3518437208883
       ·rw [if_pos c45] at H
        have LMc45 := AM c45
        clear c45
        obtain ⟨y169, hy169⟩ : ∃ y_ : List (S67), y_ = (x159000_2 ++ [(⟨(rd_T67 l0_0 x7_2).f0, (rd_T67 l0_0 x7_2).f1, (rd_T67 l0_0 x7_2).f2⟩ : S67)]) := ⟨_, rfl⟩
        replace H : (spec_l03Put.l1 k2 (wrap64 (x7_2 + 1)) l0_0 a1_0 a1_1 a1_2 y169) = some r := by first | (rw [hy169]; with_reducible exact H) | (have H2_ := (Option.bind_some _ _).symm.trans H; rw [hy169]; with_reducible exact H2_) | (have H2_ := (Option.bind_some _ _).symm.trans H; with_reducible exact H2_) | with_reducible exact H | (rw [hy169]; exact H) | exact H
        have Ny169 := AM hy169
        clear hy169
        have H' := AM H
        clear H
        have hnb46 := NB155_156.out
        have hnc46 := NB156_155.out
        have hnb47 := NB155_157.out
        have hnc47 := NB157_155.out
        have hnb48 := NB155_158.out
        have hnc48 := NB158_155.out
        have hcz49_0 : wr.cell? ⟨gb155, 0, none⟩ = some (.slice A0_0 l0_0.length c0_0) := bc BK155 0
        have hfz49_0 := blk_frozen BK155.out 0
        try go_wp2
        have n0_ := AM (Kd.R_drew HO_159000.out)
        have n1_ := AM (blk_drew BK155.out)
        have n2_ := AM (blk_drew BK156.out)
        have n3_ := AM (blk_drew BK157.out)
        have n4_ := AM (blk_drew BK158.out)
        have n5_ := AM (below_drew1 HB.out)
        clear HO_159000
        clear BK155
        clear BK156
        clear BK157
        clear BK158
        clear HB
        have HO_159000 := n0_
        have BK155 := n1_
        have BK156 := n2_
        have BK157 := n3_
        have BK158 := n4_
        have HB := n5_
        clear n0_ n1_ n2_ n3_ n4_ n5_
        have p167 : 0 ≤ (x7_2 : Int) := od
        have q167 : x7_2 < (l0_0.length : Int) := od
        obtain ⟨ad167, e167, hx167_0, hx167_1, hx167_2⟩ := at_T67 HR0_0.out x7_2 p167 q167
        have hw167_2 := hx167_2
        have hw167_1 := hx167_1
        have hw167_0 := hx167_0
        cases e167
        replace hx167_0 := cl HB hx167_0
        replace hx167_1 := cl HB hx167_1
        replace hx167_2 := cl HB hx167_2
        replace p167 := eq_true p167
        replace q167 := eq_true q167
        refine start_ (n := 9) (S := fun w' => w'.cell? ⟨gb155, 0, none⟩ = some (.slice (some ad167) l0_0.length c0_0) ∧ w'.cell? ⟨gb156, 0, none⟩ = some (.string a1_0) ∧ w'.cell? ⟨gb156, 1, none⟩ = some (.string a1_1) ∧ w'.cell? ⟨gb156, 2, none⟩ = some (.int .i64 a1_2) ∧ w'.cell? (ad167.add ((x7_2).toNat * 3)) = some (.string ((rd_T67 l0_0 x7_2).f0)) ∧ w'.cell? ⟨(ad167.add ((x7_2).toNat * 3)).block, (ad167.add ((x7_2).toNat * 3)).off + 1, none⟩ = some (.string ((rd_T67 l0_0 x7_2).f1)) ∧ w'.cell? ⟨(ad167.add ((x7_2).toNat * 3)).block, (ad167.add ((x7_2).toNat * 3)).off + 2, none⟩ = some (.int .i64 ((rd_T67 l0_0 x7_2).f2))) (ds := []) #[false, false, false, false, false, false, false, false, false] (by kernel_rfl) rfl rfl ⟨bc BK155 0, bc BK156 0, bc BK156 1, bc BK156 2, (cl HB hw167_0), (cl HB hw167_1), (cl HB hw167_2)⟩ (fun hHeld => ?_); refine with_tabW spec_l03Put.tab11 spec_l03Put.bits11 (fun HT_ HW_ => ?_)
        generalize wr.drew = w50 at HO_159000 BK155 BK156 BK157 BK158 HB hx167_0 hx167_1 hx167_2 hHeld ⊢
        refine pure_ (i := 0) (N := some 48) (v := ?_) (a' := ?_) #[true, false, false, false, false, false, false, false, false] rfl rfl (any_of HT_.out (by kernel_rfl)) (fun _ _ _ h => h) (Or.inl ⟨by rfl, ?_⟩) ?_ ?_
        rotate_left
        ·intro w'
         go_simp
         with_reducible rfl
        rotate_left
        ·simp only [Act.put, qT, q0, qS, i64_w, i32_w]
         rfl
        refine pure_ (i := 2) (N := some 50) (v := ?_) (a' := ?_) #[true, false, true, false, false, false, false, false, false] rfl rfl (any_of HT_.out (by kernel_rfl)) (fun _ _ _ h => h) (Or.inl ⟨by rfl, ?_⟩) ?_ ?_
        rotate_left
        ·intro w'
         go_simp
         with_reducible rfl
        rotate_left
        ·simp only [Act.put, qT, q0, qS, i64_w, i32_w]
         rfl
        refine pure_ (i := 6) (N := some 54) (v := ?_) (a' := ?_) #[true, false, true, false, false, false, true, false, false] rfl rfl (any_of HT_.out (by kernel_rfl)) (fun _ _ _ h => h) (Or.inl ⟨by rfl, ?_⟩) ?_ ?_
        rotate_left
        ·intro w'
         go_simp
         with_reducible rfl
        rotate_left
        ·simp only [Act.put, qT, q0, qS, i64_w, i32_w]
         rfl
        refine take_ (i := 1) (N := some 49) (v := ?_) (a' := ?_) #[true, true, true, false, false, false, true, false, false] rfl rfl (take_ofW HT_.out HW_.out (by kernel_rfl)) (fun _ _ _ h => h) (Or.inl ⟨by rfl, ?_⟩) hHeld ?_ ?_
        rotate_left
        ·rintro w' ⟨s0, s1, s2, s3, s4, s5, s6⟩
         go_simp
         with_reducible rfl
        rotate_left
        ·simp only [Act.put, qT, q0, qS, i64_w, i32_w]
         rfl
        refine pure_ (i := 3) (N := some 51) (v := ?_) (a' := ?_) #[true, true, true, true, false, false, true, false, false] rfl rfl (any_of HT_.out (by kernel_rfl)) (fun _ _ _ h => h) (Or.inl ⟨by rfl, ?_⟩) ?_ ?_
        rotate_left
        ·intro w'
         go_simp
         with_reducible rfl
        rotate_left
        ·simp only [Act.put, qT, q0, qS, i64_w, i32_w]
         rfl
        refine pure_ (i := 4) (N := some 52) (v := ?_) (a' := ?_) #[true, true, true, true, true, false, true, false, false] rfl rfl (any_of HT_.out (by kernel_rfl)) (fun _ _ _ h => h) (Or.inl ⟨by rfl, ?_⟩) ?_ ?_
        rotate_left
        ·intro w'
         go_simp
         with_reducible rfl
        rotate_left
        ·simp only [Act.put, qT, q0, qS, i64_w, i32_w]
         rfl
        refine take_ (i := 5) (N := some 53) (v := ?_) (a' := ?_) #[true, true, true, true, true, true, true, false, false] rfl rfl (take_ofW HT_.out HW_.out (by kernel_rfl)) (fun _ _ _ h => h) (Or.inl ⟨by rfl, ?_⟩) hHeld ?_ ?_
        rotate_left
        ·rintro w' ⟨s0, s1, s2, s3, s4, s5, s6⟩
         go_simp
         with_reducible rfl
        rotate_left
        ·simp only [Act.put, qT, q0, qS, i64_w, i32_w]
         rfl
        refine take_ (i := 7) (N := some 55) (v := ?_) (a' := ?_) #[true, true, true, true, true, true, true, true, false] rfl rfl (take_ofW HT_.out HW_.out (by kernel_rfl)) (fun _ _ _ h => h) (Or.inl ⟨by rfl, ?_⟩) hHeld ?_ ?_
        rotate_left
        ·rintro w' ⟨s0, s1, s2, s3, s4, s5, s6⟩
         go_simp
         with_reducible rfl
        rotate_left
        ·simp only [Act.put, qT, q0, qS, i64_w, i32_w]
         rfl
        refine pure_ (i := 8) (N := some 56) (v := ?_) (a' := ?_) #[true, true, true, true, true, true, true, true, true] rfl rfl (any_of HT_.out (by kernel_rfl)) (fun _ _ _ h => h) (Or.inl ⟨by rfl, ?_⟩) ?_ ?_
        rotate_left
        ·intro w'
         go_simp
         with_reducible rfl
        rotate_left
        ·simp only [Act.put, qT, q0, qS, i64_w, i32_w]
         rfl
        refine done_ (done_of HT_.out (by kernel_rfl)) ?_
        try go_wp2
        have n0_ := AM (Kd.R_drew HO_159000.out)
        have n1_ := AM (blk_drew BK155.out)
        have n2_ := AM (blk_drew BK156.out)
        have n3_ := AM (blk_drew BK157.out)
        have n4_ := AM (blk_drew BK158.out)
        have n5_ := AM (below_drew1 HB.out)
        clear HO_159000
        clear BK155
        clear BK156
        clear BK157
        clear BK158
        clear HB
        have HO_159000 := n0_
        have BK155 := n1_
        have BK156 := n2_
        have BK157 := n3_
        have BK158 := n4_
        have HB := n5_
        clear n0_ n1_ n2_ n3_ n4_ n5_
        have p168 : 0 ≤ (x7_2 : Int) := od
        have q168 : x7_2 < (l0_0.length : Int) := od
        obtain ⟨ad168, e168, hx168_0, hx168_1, hx168_2⟩ := at_T67 HR0_0.out x7_2 p168 q168
        have hw168_2 := hx168_2
        have hw168_1 := hx168_1
        have hw168_0 := hx168_0
        obtain rfl : ad167 = ad168 := (by injection e168)
        replace hx168_0 := cl HB hx168_0
        replace hx168_1 := cl HB hx168_1
        replace hx168_2 := cl HB hx168_2
        replace p168 := eq_true p168
        replace q168 := eq_true q168
        refine start_ (n := 11) (S := fun w' => w'.cell? ⟨gb158, 0, none⟩ = some (u159000) ∧ w'.cell? ⟨gb155, 0, none⟩ = some (.slice (some ad167) l0_0.length c0_0) ∧ w'.cell? (ad167.add ((x7_2).toNat * 3)) = some (.string ((rd_T67 l0_0 x7_2).f0)) ∧ w'.cell? ⟨(ad167.add ((x7_2).toNat * 3)).block, (ad167.add ((x7_2).toNat * 3)).off + 1, none⟩ = some (.string ((rd_T67 l0_0 x7_2).f1)) ∧ w'.cell? ⟨(ad167.add ((x7_2).toNat * 3)).block, (ad167.add ((x7_2).toNat * 3)).off + 2, none⟩ = some (.int .i64 ((rd_T67 l0_0 x7_2).f2))) (ds := [10]) #[false, false, false, false, false, false, false, false, false, false, false] (by kernel_rfl) rfl rfl ⟨bc BK158 0, bc BK155 0, (cl HB hw168_0), (cl HB hw168_1), (cl HB hw168_2)⟩ (fun hHeld => ?_); refine with_tabW spec_l03Put.tab12 spec_l03Put.bits12 (fun HT_ HW_ => ?_)
        generalize w50.drew = w51 at HO_159000 BK155 BK156 BK157 BK158 HB hx168_0 hx168_1 hx168_2 hHeld ⊢
        refine pure_ (i := 0) (N := some 57) (v := ?_) (a' := ?_) #[true, false, false, false, false, false, false, false, false, false, false] rfl rfl (any_of HT_.out (by kernel_rfl)) (fun _ _ _ h => h) (Or.inl ⟨by rfl, ?_⟩) ?_ ?_
        rotate_left
        ·intro w'
         go_simp
         with_reducible rfl
        rotate_left
        ·simp only [Act.put, qT, q0, qS, i64_w, i32_w]
         rfl
        refine pure_ (i := 2) (N := some 59) (v := ?_) (a' := ?_) #[true, false, true, false, false, false, false, false, false, false, false] rfl rfl (any_of HT_.out (by kernel_rfl)) (fun _ _ _ h => h) (Or.inl ⟨by rfl, ?_⟩) ?_ ?_
        rotate_left
        ·intro w'
         go_simp
         with_reducible rfl
        rotate_left
        ·simp only [Act.put, qT, q0, qS, i64_w, i32_w]
         rfl
        refine pure_ (i := 4) (N := some 61) (v := ?_) (a' := ?_) #[true, false, true, false, true, false, false, false, false, false, false] rfl rfl (any_of HT_.out (by kernel_rfl)) (fun _ _ _ h => h) (Or.inl ⟨by rfl, ?_⟩) ?_ ?_
        rotate_left
        ·intro w'
         go_simp
         with_reducible rfl
        rotate_left
        ·simp only [Act.put, qT, q0, qS, i64_w, i32_w]
         rfl
        refine take_ (i := 1) (N := some 58) (v := ?_) (a' := ?_) #[true, true, true, false, true, false, false, false, false, false, false] rfl rfl (take_ofW HT_.out HW_.out (by kernel_rfl)) (fun _ _ _ h => h) (Or.inl ⟨by rfl, ?_⟩) hHeld ?_ ?_
        rotate_left
        ·rintro w' ⟨s0, s1, s2, s3, s4⟩
         go_simp
         with_reducible rfl
        rotate_left
        ·simp only [Act.put, qT, q0, qS, i64_w, i32_w]
         rfl
        refine take_ (i := 3) (N := some 60) (v := ?_) (a' := ?_) #[true, true, true, true, true, false, false, false, false, false, false] rfl rfl (take_ofW HT_.out HW_.out (by kernel_rfl)) (fun _ _ _ h => h) (Or.inl ⟨by rfl, ?_⟩) hHeld ?_ ?_
        rotate_left
        ·rintro w' ⟨s0, s1, s2, s3, s4⟩
         go_simp
         with_reducible rfl
        rotate_left
        ·simp only [Act.put, qT, q0, qS, i64_w, i32_w]
         rfl
        refine pure_ (i := 5) (N := some 62) (v := ?_) (a' := ?_) #[true, true, true, true, true, true, false, false, false, false, false] rfl rfl (any_of HT_.out (by kernel_rfl)) (fun _ _ _ h => h) (Or.inl ⟨by rfl, ?_⟩) ?_ ?_
        rotate_left
        ·intro w'
         go_simp
         with_reducible rfl
        rotate_left
        ·simp only [Act.put, qT, q0, qS, i64_w, i32_w]
         rfl
        refine take_ (i := 6) (N := some 63) (v := ?_) (a' := ?_) #[true, true, true, true, true, true, true, false, false, false, false] rfl rfl (take_ofW HT_.out HW_.out (by kernel_rfl)) (fun _ _ _ h => h) (Or.inl ⟨by rfl, ?_⟩) hHeld ?_ ?_
        rotate_left
        ·rintro w' ⟨s0, s1, s2, s3, s4⟩
         go_simp
         with_reducible rfl
        rotate_left
        ·simp only [Act.put, qT, q0, qS, i64_w, i32_w]
         rfl
        refine one_ (i := 7) (N := some 64) #[true, true, true, true, true, true, true, true, false, false, false] rfl rfl (one_of HT_.out (by kernel_rfl)) (by decide) (fun K hK => ?_)
        refine value_ (w1 := ?_) (v := ?_) (by rfl) rfl ?_ ?_
        rotate_left 2
        ·go_simp
         constructor
         ·rfl
         rfl
        refine hK.out _ _ ⟨(blk_cell (blk_alloc BK158.out _) 0).trans rfl, (blk_cell (blk_alloc BK155.out _) 0).trans rfl, (World.cell?_alloc_lt _ _ _ (World.block_lt_of_cell? _ _ ((cl HB hw168_0)))).trans ((cl HB hw168_0)), (World.cell?_alloc_lt _ _ _ (World.block_lt_of_cell? _ _ ((cl HB hw168_1)))).trans ((cl HB hw168_1)), (World.cell?_alloc_lt _ _ _ (World.block_lt_of_cell? _ _ ((cl HB hw168_2)))).trans ((cl HB hw168_2))⟩ (fun hHeld => ?_)
        clear hK K
        refine norm_ (a' := ?_) ?_ ?_
        rotate_left
        ·show Act.put _ (some 64) _ = _
         simp only [Act.put, qT, q0, qS, i64_w, i32_w]
         rfl
        refine one_ (i := 8) (N := some 65) #[true, true, true, true, true, true, true, true, true, false, false] rfl rfl (one_of HT_.out (by kernel_rfl)) (by decide) (fun K hK => ?_)
        refine Kd.R_append_step k67 (w0 := w) w.heap.size (by rfl) (.tmp 58) (.tmp 64) 28 67 (.agg #[(.string ⟨#[]⟩), (.string ⟨#[]⟩), (.int .i64 0)]) 40 rfl Try.underlying28 info67 rfl (by decide) (by omega) u159000 x159000_2 (⟨(rd_T67 l0_0 x7_2).f0, (rd_T67 l0_0 x7_2).f1, (rd_T67 l0_0 x7_2).f2⟩ : S67) [.string ((rd_T67 l0_0 x7_2).f0), .string ((rd_T67 l0_0 x7_2).f1), .int .i64 ((rd_T67 l0_0 x7_2).f2)] (fun k_ => k_ ≠ gb156) (fun _ => False) rfl rfl ?aP (fun _ hk => hk.elim) ?aF ?aO ?aB ?aS ?aL ?_
        (case aP => exact k67_mkM _ _ _ (⟨(rd_T67 l0_0 x7_2).f0, (rd_T67 l0_0 x7_2).f1, (rd_T67 l0_0 x7_2).f2⟩ : S67))
        (case aB => exact (hS))
        (case aF => exact (fun k_ hk => Kd.freshB (g := gb156) (o := .cells #[.string a1_0, .string a1_1, .int .i64 a1_2] 67 (0, 0)) (bk BK156) k_ hk))
        (case aO => exact (by exact HO_159000.out))
        (case aS => exact (below_size (hS)))
        (case aL => have := LMc45.out; omega)
        intro v170 w52 ho hb hg hat
        rw [← Ny169.out] at ho
        have n0_ := AM (blk_grown (g := gb155) (o := .cells #[.slice (some ad167) l0_0.length c0_0] 30 (0, 0)) (bk BK155) hg (Kd.R_ne HO_159000.out BK155.out (by decide)))
        have n1_ := AM (blk_grown (g := gb156) (o := .cells #[.string a1_0, .string a1_1, .int .i64 a1_2] 67 (0, 0)) (bk BK156) hg (Kd.R_away HO_159000.out (fun _ hk => hk)))
        have n2_ := AM (blk_grown (g := gb157) (o := .cells #[.slice none 0 0] 30 (0, 0)) (bk BK157) hg (Kd.R_ne HO_159000.out BK157.out (by decide)))
        have n3_ := AM (blk_grown (g := gb158) (o := .cells #[u159000] 30 (0, 0)) (bk BK158) hg (Kd.R_ne HO_159000.out BK158.out (by decide)))
        have n4_ := AM (hb)
        have n5_ := AM (ho)
        clear BK155
        clear BK156
        clear BK157
        clear BK158
        clear HB
        clear HO_159000
        have BK155 := n0_
        have BK156 := n1_
        have BK157 := n2_
        have BK158 := n3_
        have HB := n4_
        have HO171 := n5_
        clear n0_ n1_ n2_ n3_ n4_ n5_
        clear ho hb hg hat
        obtain ⟨Ao53, co53, eo53⟩ := Kd.R_slice HO171.out
        (first | subst eo53 | (injection eo53 with f1_ f2_ f3_; have f4_ := f1_.symm; have f5_ := f3_.symm; clear f1_ f2_ f3_; subst f4_; subst f5_))
        refine hK.out _ _ ⟨bc BK158 0, bc BK155 0, (cl HB hw168_0), (cl HB hw168_1), (cl HB hw168_2)⟩ (fun hHeld => ?_)
        clear hK K
        refine norm_ (a' := ?_) ?_ ?_
        rotate_left
        ·show Act.put _ (some 65) _ = _
         simp only [Act.put, qT, q0, qS, i64_w, i32_w]
         rfl
        refine pure_ (i := 9) (N := some 66) (v := ?_) (a' := ?_) #[true, true, true, true, true, true, true, true, true, true, false] rfl rfl (any_of HT_.out (by kernel_rfl)) (fun _ _ _ h => h) (Or.inl ⟨by rfl, ?_⟩) ?_ ?_
        rotate_left
        ·intro w'
         go_simp
         with_reducible rfl
        rotate_left
        ·simp only [Act.put, qT, q0, qS, i64_w, i32_w]
         rfl
        refine last_ (i := 10) (N := none) #[true, true, true, true, true, true, true, true, true, true, true] rfl rfl (one_of HT_.out (by kernel_rfl)) (by decide) (fun K hK => ?_)
        have hs54 : w52.cell? ⟨gb158, 0, none⟩ = some (u159000) := bc BK158 0
        have hfs54 := blk_frozen BK158.out 0
        have hns54_0 := NB155_158.out
        have hns54_1 := NB156_158.out
        have hns54_2 := NB157_158.out
        have hms54_0 := NB158_155.out
        have hms54_1 := NB158_156.out
        have hms54_2 := NB158_157.out
        refine skip_ (w1 := ?_) (by rfl) rfl ?_ ?_
        rotate_left
        ·go_simp
         rfl
        refine hK.out _ _ ?_
        clear hK K
        refine done_ (done_of HT_.out (by kernel_rfl)) ?_
        try go_wp2
        go_roundg k2
        case measure => have := HK1.out; have := HK2.out; omega
        case rel => exact ⟨(wrap64 (x7_2 + 1)), (y169), (.slice Ao53 y169.length co53), (by first | rfl | (simp; done) | (simp [*]; done)), H', ⟨by have := HK1.out; have := HK2.out; omega⟩, ⟨by exact Kd.R_mono (Kd.R_far (p := ⟨gb158, 0, none⟩) (Kd.R_types HO171.out BK158.out (by decide)) (fun _ hk => hk.2) (.slice Ao53 y169.length co53)) (fun _ hk => hk.1)⟩, ⟨be⟩, ⟨be⟩, ⟨be⟩, ⟨by (with_reducible repeat first | apply aN | apply aD | apply aA); refine blk_put (cs := #[u159000]) ?_ 0 _ rfl; exact bk BK158⟩, ⟨hS⟩⟩
       rw [if_neg c45] at H
       exact absurd H (by simp)
      rw [if_neg c44] at H
      have c44b0 : (Op.bytesLess a1_0.toList (((rd_T67 l0_0 x7_2).f0).toList)) = false := by simpa using c44
      clear c44
      have H' := AM H
      clear H
      have hnb55 := NB155_156.out
      have hnc55 := NB156_155.out
      have hnb56 := NB155_157.out
      have hnc56 := NB157_155.out
      have hnb57 := NB155_158.out
      have hnc57 := NB158_155.out
      have hcz58_0 : wr.cell? ⟨gb155, 0, none⟩ = some (.slice A0_0 l0_0.length c0_0) := bc BK155 0
      have hfz58_0 := blk_frozen BK155.out 0
      try go_wp2
      have n0_ := AM (Kd.R_drew HO_159000.out)
      have n1_ := AM (blk_drew BK155.out)
      have n2_ := AM (blk_drew BK156.out)
      have n3_ := AM (blk_drew BK157.out)
      have n4_ := AM (blk_drew BK158.out)
      have n5_ := AM (below_drew1 HB.out)
      clear HO_159000
      clear BK155
      clear BK156
      clear BK157
      clear BK158
      clear HB
      have HO_159000 := n0_
      have BK155 := n1_
      have BK156 := n2_
      have BK157 := n3_
      have BK158 := n4_
      have HB := n5_
      clear n0_ n1_ n2_ n3_ n4_ n5_
      have p167 : 0 ≤ (x7_2 : Int) := od
      have q167 : x7_2 < (l0_0.length : Int) := od
      obtain ⟨ad167, e167, hx167_0, hx167_1, hx167_2⟩ := at_T67 HR0_0.out x7_2 p167 q167
      have hw167_2 := hx167_2
      have hw167_1 := hx167_1
      have hw167_0 := hx167_0
      cases e167
      replace hx167_0 := cl HB hx167_0
      replace hx167_1 := cl HB hx167_1
      replace hx167_2 := cl HB hx167_2
      replace p167 := eq_true p167
      replace q167 := eq_true q167
      refine start_ (n := 9) (S := fun w' => w'.cell? ⟨gb155, 0, none⟩ = some (.slice (some ad167) l0_0.length c0_0) ∧ w'.cell? ⟨gb156, 0, none⟩ = some (.string a1_0) ∧ w'.cell? ⟨gb156, 1, none⟩ = some (.string a1_1) ∧ w'.cell? ⟨gb156, 2, none⟩ = some (.int .i64 a1_2) ∧ w'.cell? (ad167.add ((x7_2).toNat * 3)) = some (.string ((rd_T67 l0_0 x7_2).f0)) ∧ w'.cell? ⟨(ad167.add ((x7_2).toNat * 3)).block, (ad167.add ((x7_2).toNat * 3)).off + 1, none⟩ = some (.string ((rd_T67 l0_0 x7_2).f1)) ∧ w'.cell? ⟨(ad167.add ((x7_2).toNat * 3)).block, (ad167.add ((x7_2).toNat * 3)).off + 2, none⟩ = some (.int .i64 ((rd_T67 l0_0 x7_2).f2))) (ds := []) #[false, false, false, false, false, false, false, false, false] (by kernel_rfl) rfl rfl ⟨bc BK155 0, bc BK156 0, bc BK156 1, bc BK156 2, (cl HB hw167_0), (cl HB hw167_1), (cl HB hw167_2)⟩ (fun hHeld => ?_); refine with_tabW spec_l03Put.tab11 spec_l03Put.bits11 (fun HT_ HW_ => ?_)
      generalize wr.drew = w59 at HO_159000 BK155 BK156 BK157 BK158 HB hx167_0 hx167_1 hx167_2 hHeld ⊢
      refine pure_ (i := 0) (N := some 48) (v := ?_) (a' := ?_) #[true, false, false, false, false, false, false, false, false] rfl rfl (any_of HT_.out (by kernel_rfl)) (fun _ _ _ h => h) (Or.inl ⟨by rfl, ?_⟩) ?_ ?_
      rotate_left
      ·intro w'
       go_simp
       with_reducible rfl
      rotate_left
      ·simp only [Act.put, qT, q0, qS, i64_w, i32_w]
       rfl
      refine pure_ (i := 2) (N := some 50) (v := ?_) (a' := ?_) #[true, false, true, false, false, false, false, false, false] rfl rfl (any_of HT_.out (by kernel_rfl)) (fun _ _ _ h => h) (Or.inl ⟨by rfl, ?_⟩) ?_ ?_
      rotate_left
      ·intro w'
       go_simp
       with_reducible rfl
      rotate_left
      ·simp only [Act.put, qT, q0, qS, i64_w, i32_w]
       rfl
      refine pure_ (i := 6) (N := some 54) (v := ?_) (a' := ?_) #[true, false, true, false, false, false, true, false, false] rfl rfl (any_of HT_.out (by kernel_rfl)) (fun _ _ _ h => h) (Or.inl ⟨by rfl, ?_⟩) ?_ ?_
      rotate_left
      ·intro w'
       go_simp
       with_reducible rfl
      rotate_left
      ·simp only [Act.put, qT, q0, qS, i64_w, i32_w]
       rfl
      refine take_ (i := 1) (N := some 49) (v := ?_) (a' := ?_) #[true, true, true, false, false, false, true, false, false] rfl rfl (take_ofW HT_.out HW_.out (by kernel_rfl)) (fun _ _ _ h => h) (Or.inl ⟨by rfl, ?_⟩) hHeld ?_ ?_
      rotate_left
      ·rintro w' ⟨s0, s1, s2, s3, s4, s5, s6⟩
       go_simp
       with_reducible rfl
      rotate_left
      ·simp only [Act.put, qT, q0, qS, i64_w, i32_w]
       rfl
      refine pure_ (i := 3) (N := some 51) (v := ?_) (a' := ?_) #[true, true, true, true, false, false, true, false, false] rfl rfl (any_of HT_.out (by kernel_rfl)) (fun _ _ _ h => h) (Or.inl ⟨by rfl, ?_⟩) ?_ ?_
      rotate_left
      ·intro w'
       go_simp
       with_reducible rfl
      rotate_left
      ·simp only [Act.put, qT, q0, qS, i64_w, i32_w]
       rfl
      refine pure_ (i := 4) (N := some 52) (v := ?_) (a' := ?_) #[true, true, true, true, true, false, true, false, false] rfl rfl (any_of HT_.out (by kernel_rfl)) (fun _ _ _ h => h) (Or.inl ⟨by rfl, ?_⟩) ?_ ?_
      rotate_left
      ·intro w'
       go_simp
       with_reducible rfl
      rotate_left
      ·simp only [Act.put, qT, q0, qS, i64_w, i32_w]
       rfl
      refine take_ (i := 5) (N := some 53) (v := ?_) (a' := ?_) #[true, true, true, true, true, true, true, false, false] rfl rfl (take_ofW HT_.out HW_.out (by kernel_rfl)) (fun _ _ _ h => h) (Or.inl ⟨by rfl, ?_⟩) hHeld ?_ ?_
      rotate_left
      ·rintro w' ⟨s0, s1, s2, s3, s4, s5, s6⟩
       go_simp
       with_reducible rfl
      rotate_left
      ·simp only [Act.put, qT, q0, qS, i64_w, i32_w]
       rfl
      refine take_ (i := 7) (N := some 55) (v := ?_) (a' := ?_) #[true, true, true, true, true, true, true, true, false] rfl rfl (take_ofW HT_.out HW_.out (by kernel_rfl)) (fun _ _ _ h => h) (Or.inl ⟨by rfl, ?_⟩) hHeld ?_ ?_
      rotate_left
      ·rintro w' ⟨s0, s1, s2, s3, s4, s5, s6⟩
       go_simp
       with_reducible rfl
      rotate_left
      ·simp only [Act.put, qT, q0, qS, i64_w, i32_w]
       rfl
      refine pure_ (i := 8) (N := some 56) (v := ?_) (a' := ?_) #[true, true, true, true, true, true, true, true, true] rfl rfl (any_of HT_.out (by kernel_rfl)) (fun _ _ _ h => h) (Or.inl ⟨by rfl, ?_⟩) ?_ ?_
      rotate_left
      ·intro w'
       go_simp
       with_reducible rfl
      rotate_left
      ·simp only [Act.put, qT, q0, qS, i64_w, i32_w]
       rfl
      refine done_ (done_of HT_.out (by kernel_rfl)) ?_
      try go_wp2
      go_roundg k2
      case measure => have := HK1.out; have := HK2.out; omega
      case rel => exact ⟨(wrap64 (x7_2 + 1)), (x159000_2), (u159000), (by first | rfl | (simp; done) | (simp [*]; done)), H', ⟨by have := HK1.out; have := HK2.out; omega⟩, ⟨by exact HO_159000.out⟩, ⟨bk BK155⟩, ⟨bk BK156⟩, ⟨bk BK157⟩, ⟨bk BK158⟩, ⟨hS⟩⟩
     rw [if_neg c43] at H
     exact absurd H (by simp)
    rw [if_neg c42] at H
    have c42b0 : decide (x7_2 < (l0_0.length : Int)) = false := decide_eq_false c42
    clear c42
    obtain rfl := Option.some.inj H
    have hnb60 := NB155_156.out
    have hnc60 := NB156_155.out
    have hnb61 := NB155_157.out
    have hnc61 := NB157_155.out
    have hnb62 := NB155_158.out
    have hnc62 := NB158_155.out
    have hcz63_0 : wr.cell? ⟨gb155, 0, none⟩ = some (.slice A0_0 l0_0.length c0_0) := bc BK155 0
    have hfz63_0 := blk_frozen BK155.out 0
    have hnb64 := NB158_156.out
    have hnc64 := NB156_158.out
    have hnb65 := NB158_157.out
    have hnc65 := NB157_158.out
    have hcz66_0 : wr.cell? ⟨gb158, 0, none⟩ = some (u159000) := bc BK158 0
    have hfz66_0 := blk_frozen BK158.out 0
    obtain ⟨Ao67, co67, eo67⟩ := Kd.R_slice HO_159000.out
    subst eo67
    have hnb68 := NB157_156.out
    have hnc68 := NB156_157.out
    have hcz69_0 : wr.cell? ⟨gb157, 0, none⟩ = some (.slice none 0 0) := bc BK157 0
    have hfz69_0 := blk_frozen BK157.out 0
    go_wp2
    refine bodyPost_ret (results_cell_row rfl _ _ gb157 30 #[.slice Ao67 x159000_2.length co67] (0, 0) _ rfl (by (with_reducible repeat first | apply aN | apply aD | apply aA); refine blk_put (cs := #[.slice none 0 0]) ?_ 0 _ rfl; exact bk BK157) Try.underlying30 rfl (by kernel_rfl)) rfl ?_
    exact ⟨_, by first | rfl | (simp [errW_none, errW_some] <;> rfl) | (simp [*, errW_none, errW_some] <;> rfl), by exact Kd.R_mono (Kd.R_far (p := ⟨gb157, 0, none⟩) (Kd.R_types HO_159000.out BK157.out (by decide)) (fun _ hk => hk.2) (.slice Ao67 x159000_2.length co67)) (fun _ hk => trivial), hS⟩
  rw [if_neg c29] at H
  exact absurd H (by simp)

end Go.Proofs.Ytnkldnkolcighaa.XFnExactDoActs
