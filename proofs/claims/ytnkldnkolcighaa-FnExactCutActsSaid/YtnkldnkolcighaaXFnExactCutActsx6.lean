/- What the functions of a law compute, and that their calls compute it: written by a program of this session (xprint.py), which turns the kit print at a few places. -/
import Derived.Test.YtnkldnkolcighaaXFnExactCutActsx0
namespace Go.Proofs.Ytnkldnkolcighaa.XFnExactCutActs
open Go.RowKit Go.Proofs.YtnkldnkolcighaaT.PrintWords Go.Proofs.YtnkldnkolcighaaT.PrintLast Go.Proofs.YtnkldnkolcighaaT.PrintMore
attribute [local go_sem] max2_int min2_int max_two min_two max_three min_three max_four min_four str_geq str_gtr   -- for this text's walks alone
set_option linter.unusedVariables false
set_option linter.unusedSimpArgs false

/-! ### spec_l03Put: function 46 -/
mutual
def spec_l03Put.l0 : Nat → Int → List (S67) → ByteArray → ByteArray → Int → List (S67) → Option ((List (S67)))
 | 0, _, _, _, _, _, _ => none
 | k + 1, x6, x180000, x181000, x181001, x181002, x183000 => if x6 < (x180000.length : Int) then (if 0 ≤ x6 then (if (Op.bytesLess (((rd_T67 x180000 x6).f0).toList) x181000.toList) = true then (if x183000.length < 3518437208883 then (spec_l03Put.l0 k (wrap64 (x6 + 1)) x180000 x181000 x181001 x181002 (x183000 ++ [(⟨(rd_T67 x180000 x6).f0, (rd_T67 x180000 x6).f1, (rd_T67 x180000 x6).f2⟩ : S67)])) else (none)) else (spec_l03Put.l0 k (wrap64 (x6 + 1)) x180000 x181000 x181001 x181002 x183000)) else (none)) else (if x183000.length < 3518437208883 then (spec_l03Put.l1 k 0 x180000 x181000 x181001 x181002 (x183000 ++ [(⟨x181000, x181001, x181002⟩ : S67)])) else (none))
def spec_l03Put.l1 : Nat → Int → List (S67) → ByteArray → ByteArray → Int → List (S67) → Option ((List (S67)))
 | 0, _, _, _, _, _, _ => none
 | k + 1, x7, x180000, x181000, x181001, x181002, x183000 => if x7 < (x180000.length : Int) then (if 0 ≤ x7 then (if (Op.bytesLess x181000.toList (((rd_T67 x180000 x7).f0).toList)) = true then (if x183000.length < 3518437208883 then (spec_l03Put.l1 k (wrap64 (x7 + 1)) x180000 x181000 x181001 x181002 (x183000 ++ [(⟨(rd_T67 x180000 x7).f0, (rd_T67 x180000 x7).f1, (rd_T67 x180000 x7).f2⟩ : S67)])) else (none)) else (spec_l03Put.l1 k (wrap64 (x7 + 1)) x180000 x181000 x181001 x181002 x183000)) else (none)) else (some x183000)
end
def spec_l03Put.f (k : Nat) (l0_0 : List (S67)) (a1_0 : ByteArray) (a1_1 : ByteArray) (a1_2 : Int) : Option ((List (S67))) := spec_l03Put.l0 k 0 l0_0 a1_0 a1_1 a1_2 ([] : List (S67))
theorem spec_l03Put.mono_l : ∀ k, (∀ y0 y1 y2 y3 y4 y5, LeO (spec_l03Put.l0 k y0 y1 y2 y3 y4 y5) (spec_l03Put.l0 (k + 1) y0 y1 y2 y3 y4 y5)) ∧ (∀ y0 y1 y2 y3 y4 y5, LeO (spec_l03Put.l1 k y0 y1 y2 y3 y4 y5) (spec_l03Put.l1 (k + 1) y0 y1 y2 y3 y4 y5))
 | 0 => ⟨fun _ _ _ _ _ _ r h => by simp [spec_l03Put.l0] at h, fun _ _ _ _ _ _ r h => by simp [spec_l03Put.l1] at h⟩
 | k + 1 => by
  obtain ⟨ih0, ih1⟩ := spec_l03Put.mono_l k
  refine ⟨?_, ?_⟩
  ·intro y0 y1 y2 y3 y4 y5
   unfold spec_l03Put.l0
   repeat' first
   | (with_reducible exact LeO.refl _)
   | (with_reducible refine LeO.ite ?_ ?_)
   | (with_reducible refine LeO.bind ?_ (fun _ => ?_))
   | exact ih0 _ _ _ _ _ _
   | exact ih1 _ _ _ _ _ _
   | exact LeO.none _
   | refine LeO.ite ?_ ?_
   | refine LeO.bind ?_ (fun _ => ?_)
  intro y0 y1 y2 y3 y4 y5
  unfold spec_l03Put.l1
  repeat' first
  | (with_reducible exact LeO.refl _)
  | (with_reducible refine LeO.ite ?_ ?_)
  | (with_reducible refine LeO.bind ?_ (fun _ => ?_))
  | exact ih0 _ _ _ _ _ _
  | exact ih1 _ _ _ _ _ _
  | exact LeO.none _
  | refine LeO.ite ?_ ?_
  | refine LeO.bind ?_ (fun _ => ?_)
theorem spec_l03Put.mono : ∀ a0 a1 a2 a3 k, LeO (spec_l03Put.f k a0 a1 a2 a3) (spec_l03Put.f (k + 1) a0 a1 a2 a3) := by
 intro a0 a1 a2 a3 k
 obtain ⟨ih0, ih1⟩ := spec_l03Put.mono_l k
 unfold spec_l03Put.f
 repeat' first
   | (with_reducible exact LeO.refl _)
   | (with_reducible refine LeO.ite ?_ ?_)
   | (with_reducible refine LeO.bind ?_ (fun _ => ?_))
   | exact ih0 _ _ _ _ _ _
   | exact ih1 _ _ _ _ _ _
   | exact LeO.none _
   | refine LeO.ite ?_ ?_
   | refine LeO.bind ?_ (fun _ => ?_)
def spec_l03Put.T5 : Bool × List (List Nat × List Nat) := (true, [([], []), ([0], [0]), ([], []), ([1, 2], [1, 2]), ([3], [3]), ([4], [4]), ([], []), ([6], [6]), ([5, 7], [5, 7])])
def spec_l03Put.B5 : List Nat := [0, 1, 0, 7, 15, 31, 0, 64, 255]
theorem spec_l03Put.tab5 : rtab .any (opsOf Try.f46 5) = spec_l03Put.T5 := by kernel_rfl
theorem spec_l03Put.bits5 : waitsOk spec_l03Put.T5.2 spec_l03Put.B5 = true := by kernel_rfl
def spec_l03Put.T6 : Bool × List (List Nat × List Nat) := (true, [([], []), ([0], [0]), ([], []), ([2], [2]), ([], []), ([3, 4], [3, 4]), ([5], [5]), ([6], [6]), ([1, 7], [1, 7]), ([0, 1, 2, 3, 4, 5, 6, 7, 8], []), ([9, 8, 8, 0, 1, 2, 3, 4, 5, 6, 7, 8], [8, 9])])
def spec_l03Put.B6 : List Nat := [0, 1, 0, 4, 0, 28, 60, 124, 255, 511, 1023]
theorem spec_l03Put.tab6 : rtab .any (opsOf Try.f46 6) = spec_l03Put.T6 := by kernel_rfl
theorem spec_l03Put.bits6 : waitsOk spec_l03Put.T6.2 spec_l03Put.B6 = true := by kernel_rfl
def spec_l03Put.T11 : Bool × List (List Nat × List Nat) := (true, [([], []), ([0], [0]), ([], []), ([1, 2], [1, 2]), ([3], [3]), ([4], [4]), ([], []), ([6], [6]), ([5, 7], [5, 7])])
def spec_l03Put.B11 : List Nat := [0, 1, 0, 7, 15, 31, 0, 64, 255]
theorem spec_l03Put.tab11 : rtab .any (opsOf Try.f46 11) = spec_l03Put.T11 := by kernel_rfl
theorem spec_l03Put.bits11 : waitsOk spec_l03Put.T11.2 spec_l03Put.B11 = true := by kernel_rfl
def spec_l03Put.T12 : Bool × List (List Nat × List Nat) := (true, [([], []), ([0], [0]), ([], []), ([2], [2]), ([], []), ([3, 4], [3, 4]), ([5], [5]), ([6], [6]), ([1, 7], [1, 7]), ([0, 1, 2, 3, 4, 5, 6, 7, 8], []), ([9, 8, 8, 0, 1, 2, 3, 4, 5, 6, 7, 8], [8, 9])])
def spec_l03Put.B12 : List Nat := [0, 1, 0, 4, 0, 28, 60, 124, 255, 511, 1023]
theorem spec_l03Put.tab12 : rtab .any (opsOf Try.f46 12) = spec_l03Put.T12 := by kernel_rfl
theorem spec_l03Put.bits12 : waitsOk spec_l03Put.T12.2 spec_l03Put.B12 = true := by kernel_rfl
set_option maxHeartbeats 8000000 in
set_option maxRecDepth 100000 in
theorem spec_l03Put.calls (k : Nat) (A0_0 : Option Addr) (c0_0 : Nat) (l0_0 : List (S67)) (a1_0 : ByteArray) (a1_1 : ByteArray) (a1_2 : Int) (r : List (S67)) (w : World) (hr0_0 : Kd.C k67 w A0_0 l0_0.length l0_0) (hc0_0 : l0_0.length ≤ c0_0) (h : spec_l03Put.f k l0_0 a1_0 a1_1 a1_2 = some r) :
  Calls Try.prog 46 #[.agg #[.slice A0_0 l0_0.length c0_0], .agg #[.string a1_0, .string a1_1, .int .i64 a1_2]] w fun e w' => ∃ v0_ : Value, e = .returned (.agg #[v0_]) ∧ Kd.R k67 67 w' w.heap.size (fun _ => True) v0_ r ∧ Below w.heap.size w w' := by
 have hu30 := Try.underlying30
 have hu67 := Try.underlying67
 have HR0_0 := AM hr0_0
 have HC0_0 := AM hc0_0
 clear hr0_0 hc0_0
 have HB := AM (Below.refl w.heap.size w)
 have H : (spec_l03Put.l0 k 0 l0_0 a1_0 a1_1 a1_2 ([] : List (S67))) = some r := h
 clear h
 have H' := AM H
 clear H
 go_enter Try.func46, Try.ntmps46
 go_wp2_with (first | ((with_reducible refine gd 2 rfl ?_); refine bx (N := 2) (cs := #[.slice A0_0 l0_0.length c0_0]) (t := 30) ?_; intro gb179 hg w3 hbox hb; have BK179 := AM (hbox); have GW179 := AM (bs hg HB); have GE179 := AM (bs hg HB); replace HB := bq HB hb; clear hb hbox hg) | ((with_reducible refine gd 3 rfl ?_); refine bx (N := 3) (cs := #[.string a1_0, .string a1_1, .int .i64 a1_2]) (t := 67) ?_; intro gb180 hg w4 hbox hb; have BK180 := AM (hbox); have GW180 := AM (bt hg hS); have GE180 := AM (bt hg hS); replace HB := AM (below_step (hS) hb); have NB179_180 := AM (nl hg (bk BK179)); have NB180_179 := AM (ng hg (bk BK179)); replace BK179 := bw BK179 hb; clear hb hbox hg) | ((with_reducible refine gd 4 rfl ?_); refine bx (N := 4) (cs := #[.slice none 0 0]) (t := 30) ?_; intro gb181 hg w5 hbox hb; have BK181 := AM (hbox); have GW181 := AM (bt hg hS); have GE181 := AM (bt hg hS); replace HB := AM (below_step (hS) hb); have NB179_181 := AM (nl hg (bk BK179)); have NB181_179 := AM (ng hg (bk BK179)); replace BK179 := bw BK179 hb; have NB180_181 := AM (nl hg (bk BK180)); have NB181_180 := AM (ng hg (bk BK180)); replace BK180 := bw BK180 hb; clear hb hbox hg) | ((with_reducible refine gd 5 rfl ?_); refine bx (N := 5) (cs := #[.slice none 0 0]) (t := 30) ?_; intro gb182 hg w6 hbox hb; have BK182 := AM (hbox); have GW182 := AM (bt hg hS); have GE182 := AM (bt hg hS); replace HB := AM (below_step (hS) hb); have NB179_182 := AM (nl hg (bk BK179)); have NB182_179 := AM (ng hg (bk BK179)); replace BK179 := bw BK179 hb; have NB180_182 := AM (nl hg (bk BK180)); have NB182_180 := AM (ng hg (bk BK180)); replace BK180 := bw BK180 hb; have NB181_182 := AM (nl hg (bk BK181)); have NB182_181 := AM (ng hg (bk BK181)); replace BK181 := bw BK181 hb; clear hb hbox hg; have hnb7 := NB182_179.out; have hnc7 := NB179_182.out; have hnb8 := NB182_180.out; have hnc8 := NB180_182.out; have hnb9 := NB182_181.out; have hnc9 := NB181_182.out; have hcz10_0 := bv BK182 0 (.slice none 0 0); have hfz10_0 := bz BK182 0))
 go_loopg [6] k (fun kq v6 w' => ∃ (x6_1 : Int) (x183000_1 : List (S67)) (u183000 : Value), v6 = .int .i64 x6_1 ∧ Aside0 (spec_l03Put.l0 kq x6_1 l0_0 a1_0 a1_1 a1_2 x183000_1 = some r) ∧ Aside0 (kq ≤ k) ∧ Aside0 (Kd.R k67 67 w' w.heap.size (fun k_ => k_ ≠ gb180) u183000 x183000_1) ∧ Aside0 (w'.heap[gb179]? = some (.cells #[(.slice A0_0 l0_0.length c0_0)] 30 (0, 0))) ∧ Aside0 (w'.heap[gb180]? = some (.cells #[.string a1_0, .string a1_1, .int .i64 a1_2] 67 (0, 0))) ∧ Aside0 (w'.heap[gb181]? = some (.cells #[(.slice none 0 0)] 30 (0, 0))) ∧ Aside0 (w'.heap[gb182]? = some (.cells #[u183000] 30 (0, 0))) ∧ Aside0 (Below w.heap.size w w'))
 case atStart => exact ⟨(0), (([] : List (S67))), (.slice none 0 0), sf, H', ⟨Nat.le_refl _⟩, ⟨by first | exact Kd.R_nil _ _ _ _ _ | exact Kd.N_nil _ _ _ _ _ | exact Kd.V_nil _ _ _ _ _ | exact Kd.Q_nil _ _ _ _ _ | exact Kd.S_nil _ _ _ _ _⟩, ⟨be⟩, ⟨be⟩, ⟨be⟩, ⟨by (with_reducible repeat first | apply aN | apply aD | apply aA); refine blk_put (cs := #[.slice none 0 0]) ?_ 0 _ rfl; exact bk BK182⟩, ⟨hS⟩⟩
 clear H'
 obtain ⟨x6_1, x183000_1, u183000, rfl, HA, HK1, HO_183000, BK179, BK180, BK181, BK182, HB⟩ := hrel
 cases gk with
 | zero => exact absurd HA.out (by simp [spec_l03Put.l0])
 | succ k1 =>
  have H := HA.out
  clear HA
  simp only [spec_l03Put.l0] at H
  by_cases c11 : x6_1 < (l0_0.length : Int)
  ·rw [if_pos c11] at H
   have c11b0 : decide (x6_1 < (l0_0.length : Int)) = true := decide_eq_true c11
   clear c11
   by_cases c12 : 0 ≤ x6_1
   ·rw [if_pos c12] at H
    have c12b0 : decide (0 ≤ x6_1) = true := decide_eq_true c12
    clear c12
    by_cases c13 : (Op.bytesLess (((rd_T67 l0_0 x6_1).f0).toList) a1_0.toList) = true
    ·rw [if_pos c13] at H
     have c13b0 : (Op.bytesLess (((rd_T67 l0_0 x6_1).f0).toList) a1_0.toList) = true := c13
     clear c13
     by_cases c14 : x183000_1.length < 3518437208883
     ·rw [if_pos c14] at H
      have LMc14 := AM c14
      clear c14
      obtain ⟨y185, hy185⟩ : ∃ y_ : List (S67), y_ = (x183000_1 ++ [(⟨(rd_T67 l0_0 x6_1).f0, (rd_T67 l0_0 x6_1).f1, (rd_T67 l0_0 x6_1).f2⟩ : S67)]) := ⟨_, rfl⟩
      replace H : (spec_l03Put.l0 k1 (wrap64 (x6_1 + 1)) l0_0 a1_0 a1_1 a1_2 y185) = some r := by first | (rw [hy185]; with_reducible exact H) | (have H2_ := (Option.bind_some _ _).symm.trans H; rw [hy185]; with_reducible exact H2_) | (have H2_ := (Option.bind_some _ _).symm.trans H; with_reducible exact H2_) | with_reducible exact H | (rw [hy185]; exact H) | exact H
      have Ny185 := AM hy185
      clear hy185
      have H' := AM H
      clear H
      have hnb15 := NB179_180.out
      have hnc15 := NB180_179.out
      have hnb16 := NB179_181.out
      have hnc16 := NB181_179.out
      have hnb17 := NB179_182.out
      have hnc17 := NB182_179.out
      have hcz18_0 := bv BK179 0 (.slice A0_0 l0_0.length c0_0)
      have hfz18_0 := bz BK179 0
      try go_wp2
      replace HO_183000 := AM (Kd.R_drew HO_183000.out)
      replace BK179 := AM (blk_drew BK179.out)
      replace BK180 := AM (blk_drew BK180.out)
      replace BK181 := AM (blk_drew BK181.out)
      replace BK182 := AM (blk_drew BK182.out)
      replace HB := AM (below_drew1 HB.out)
      have p183 : 0 ≤ (x6_1 : Int) := od
      have q183 : x6_1 < (l0_0.length : Int) := od
      obtain ⟨ad183, e183, hx183_0, hx183_1, hx183_2⟩ := at_T67 HR0_0.out x6_1 p183 q183
      have hw183_2 := hx183_2
      have hw183_1 := hx183_1
      have hw183_0 := hx183_0
      cases e183
      replace hx183_0 := cl HB hx183_0
      replace hx183_1 := cl HB hx183_1
      replace hx183_2 := cl HB hx183_2
      replace p183 := eq_true p183
      replace q183 := eq_true q183
      refine start_ (n := 9) (S := fun w' => w'.cell? ⟨gb179, 0, none⟩ = some (.slice (some ad183) l0_0.length c0_0) ∧ w'.cell? ⟨gb180, 0, none⟩ = some (.string a1_0) ∧ w'.cell? ⟨gb180, 1, none⟩ = some (.string a1_1) ∧ w'.cell? ⟨gb180, 2, none⟩ = some (.int .i64 a1_2) ∧ w'.cell? (ad183.add ((x6_1).toNat * 3)) = some (.string ((rd_T67 l0_0 x6_1).f0)) ∧ w'.cell? ⟨(ad183.add ((x6_1).toNat * 3)).block, (ad183.add ((x6_1).toNat * 3)).off + 1, none⟩ = some (.string ((rd_T67 l0_0 x6_1).f1)) ∧ w'.cell? ⟨(ad183.add ((x6_1).toNat * 3)).block, (ad183.add ((x6_1).toNat * 3)).off + 2, none⟩ = some (.int .i64 ((rd_T67 l0_0 x6_1).f2))) (ds := []) #[false, false, false, false, false, false, false, false, false] (by kernel_rfl) rfl rfl ⟨bc BK179 0, bc BK180 0, bc BK180 1, bc BK180 2, (cl HB hw183_0), (cl HB hw183_1), (cl HB hw183_2)⟩ (fun hHeld => ?_); refine with_tabW spec_l03Put.tab5 spec_l03Put.bits5 (fun HT_ HW_ => ?_)
      generalize wr.drew = w19 at HO_183000 BK179 BK180 BK181 BK182 HB hx183_0 hx183_1 hx183_2 hHeld ⊢
      refine pure_ (i := 0) (N := some 16) (v := ?_) (a' := ?_) #[true, false, false, false, false, false, false, false, false] rfl rfl (any_of HT_.out (by kernel_rfl)) (fun _ _ _ h => h) (Or.inl ⟨by rfl, ?_⟩) ?_ ?_
      rotate_left
      ·intro w'
       go_simp
       with_reducible rfl
      rotate_left
      ·simp only [Act.put, qT, q0, qS, i64_w, i32_w]
       rfl
      refine pure_ (i := 2) (N := some 18) (v := ?_) (a' := ?_) #[true, false, true, false, false, false, false, false, false] rfl rfl (any_of HT_.out (by kernel_rfl)) (fun _ _ _ h => h) (Or.inl ⟨by rfl, ?_⟩) ?_ ?_
      rotate_left
      ·intro w'
       go_simp
       with_reducible rfl
      rotate_left
      ·simp only [Act.put, qT, q0, qS, i64_w, i32_w]
       rfl
      refine pure_ (i := 6) (N := some 22) (v := ?_) (a' := ?_) #[true, false, true, false, false, false, true, false, false] rfl rfl (any_of HT_.out (by kernel_rfl)) (fun _ _ _ h => h) (Or.inl ⟨by rfl, ?_⟩) ?_ ?_
      rotate_left
      ·intro w'
       go_simp
       with_reducible rfl
      rotate_left
      ·simp only [Act.put, qT, q0, qS, i64_w, i32_w]
       rfl
      refine take_ (i := 1) (N := some 17) (v := ?_) (a' := ?_) #[true, true, true, false, false, false, true, false, false] rfl rfl (take_ofW HT_.out HW_.out (by kernel_rfl)) (fun _ _ _ h => h) (Or.inl ⟨by rfl, ?_⟩) hHeld ?_ ?_
      rotate_left
      ·rintro w' ⟨s0, s1, s2, s3, s4, s5, s6⟩
       go_simp
       with_reducible rfl
      rotate_left
      ·simp only [Act.put, qT, q0, qS, i64_w, i32_w]
       rfl
      refine pure_ (i := 3) (N := some 19) (v := ?_) (a' := ?_) #[true, true, true, true, false, false, true, false, false] rfl rfl (any_of HT_.out (by kernel_rfl)) (fun _ _ _ h => h) (Or.inl ⟨by rfl, ?_⟩) ?_ ?_
      rotate_left
      ·intro w'
       go_simp
       with_reducible rfl
      rotate_left
      ·simp only [Act.put, qT, q0, qS, i64_w, i32_w]
       rfl
      refine pure_ (i := 4) (N := some 20) (v := ?_) (a' := ?_) #[true, true, true, true, true, false, true, false, false] rfl rfl (any_of HT_.out (by kernel_rfl)) (fun _ _ _ h => h) (Or.inl ⟨by rfl, ?_⟩) ?_ ?_
      rotate_left
      ·intro w'
       go_simp
       with_reducible rfl
      rotate_left
      ·simp only [Act.put, qT, q0, qS, i64_w, i32_w]
       rfl
      refine take_ (i := 5) (N := some 21) (v := ?_) (a' := ?_) #[true, true, true, true, true, true, true, false, false] rfl rfl (take_ofW HT_.out HW_.out (by kernel_rfl)) (fun _ _ _ h => h) (Or.inl ⟨by rfl, ?_⟩) hHeld ?_ ?_
      rotate_left
      ·rintro w' ⟨s0, s1, s2, s3, s4, s5, s6⟩
       go_simp
       with_reducible rfl
      rotate_left
      ·simp only [Act.put, qT, q0, qS, i64_w, i32_w]
       rfl
      refine take_ (i := 7) (N := some 23) (v := ?_) (a' := ?_) #[true, true, true, true, true, true, true, true, false] rfl rfl (take_ofW HT_.out HW_.out (by kernel_rfl)) (fun _ _ _ h => h) (Or.inl ⟨by rfl, ?_⟩) hHeld ?_ ?_
      rotate_left
      ·rintro w' ⟨s0, s1, s2, s3, s4, s5, s6⟩
       go_simp
       with_reducible rfl
      rotate_left
      ·simp only [Act.put, qT, q0, qS, i64_w, i32_w]
       rfl
      refine pure_ (i := 8) (N := some 24) (v := ?_) (a' := ?_) #[true, true, true, true, true, true, true, true, true] rfl rfl (any_of HT_.out (by kernel_rfl)) (fun _ _ _ h => h) (Or.inl ⟨by rfl, ?_⟩) ?_ ?_
      rotate_left
      ·intro w'
       go_simp
       with_reducible rfl
      rotate_left
      ·simp only [Act.put, qT, q0, qS, i64_w, i32_w]
       rfl
      refine done_ (done_of HT_.out (by kernel_rfl)) ?_
      try go_wp2
      replace HO_183000 := AM (Kd.R_drew HO_183000.out)
      replace BK179 := AM (blk_drew BK179.out)
      replace BK180 := AM (blk_drew BK180.out)
      replace BK181 := AM (blk_drew BK181.out)
      replace BK182 := AM (blk_drew BK182.out)
      replace HB := AM (below_drew1 HB.out)
      have p184 : 0 ≤ (x6_1 : Int) := od
      have q184 : x6_1 < (l0_0.length : Int) := od
      obtain ⟨ad184, e184, hx184_0, hx184_1, hx184_2⟩ := at_T67 HR0_0.out x6_1 p184 q184
      have hw184_2 := hx184_2
      have hw184_1 := hx184_1
      have hw184_0 := hx184_0
      obtain rfl : ad183 = ad184 := (by injection e184)
      replace hx184_0 := cl HB hx184_0
      replace hx184_1 := cl HB hx184_1
      replace hx184_2 := cl HB hx184_2
      replace p184 := eq_true p184
      replace q184 := eq_true q184
      refine start_ (n := 11) (S := fun w' => w'.cell? ⟨gb182, 0, none⟩ = some (u183000) ∧ w'.cell? ⟨gb179, 0, none⟩ = some (.slice (some ad183) l0_0.length c0_0) ∧ w'.cell? (ad183.add ((x6_1).toNat * 3)) = some (.string ((rd_T67 l0_0 x6_1).f0)) ∧ w'.cell? ⟨(ad183.add ((x6_1).toNat * 3)).block, (ad183.add ((x6_1).toNat * 3)).off + 1, none⟩ = some (.string ((rd_T67 l0_0 x6_1).f1)) ∧ w'.cell? ⟨(ad183.add ((x6_1).toNat * 3)).block, (ad183.add ((x6_1).toNat * 3)).off + 2, none⟩ = some (.int .i64 ((rd_T67 l0_0 x6_1).f2))) (ds := [10]) #[false, false, false, false, false, false, false, false, false, false, false] (by kernel_rfl) rfl rfl ⟨bc BK182 0, bc BK179 0, (cl HB hw184_0), (cl HB hw184_1), (cl HB hw184_2)⟩ (fun hHeld => ?_); refine with_tabW spec_l03Put.tab6 spec_l03Put.bits6 (fun HT_ HW_ => ?_)
      generalize w19.drew = w20 at HO_183000 BK179 BK180 BK181 BK182 HB hx184_0 hx184_1 hx184_2 hHeld ⊢
      refine pure_ (i := 0) (N := some 25) (v := ?_) (a' := ?_) #[true, false, false, false, false, false, false, false, false, false, false] rfl rfl (any_of HT_.out (by kernel_rfl)) (fun _ _ _ h => h) (Or.inl ⟨by rfl, ?_⟩) ?_ ?_
      rotate_left
      ·intro w'
       go_simp
       with_reducible rfl
      rotate_left
      ·simp only [Act.put, qT, q0, qS, i64_w, i32_w]
       rfl
      refine pure_ (i := 2) (N := some 27) (v := ?_) (a' := ?_) #[true, false, true, false, false, false, false, false, false, false, false] rfl rfl (any_of HT_.out (by kernel_rfl)) (fun _ _ _ h => h) (Or.inl ⟨by rfl, ?_⟩) ?_ ?_
      rotate_left
      ·intro w'
       go_simp
       with_reducible rfl
      rotate_left
      ·simp only [Act.put, qT, q0, qS, i64_w, i32_w]
       rfl
      refine pure_ (i := 4) (N := some 29) (v := ?_) (a' := ?_) #[true, false, true, false, true, false, false, false, false, false, false] rfl rfl (any_of HT_.out (by kernel_rfl)) (fun _ _ _ h => h) (Or.inl ⟨by rfl, ?_⟩) ?_ ?_
      rotate_left
      ·intro w'
       go_simp
       with_reducible rfl
      rotate_left
      ·simp only [Act.put, qT, q0, qS, i64_w, i32_w]
       rfl
      refine take_ (i := 1) (N := some 26) (v := ?_) (a' := ?_) #[true, true, true, false, true, false, false, false, false, false, false] rfl rfl (take_ofW HT_.out HW_.out (by kernel_rfl)) (fun _ _ _ h => h) (Or.inl ⟨by rfl, ?_⟩) hHeld ?_ ?_
      rotate_left
      ·rintro w' ⟨s0, s1, s2, s3, s4⟩
       go_simp
       with_reducible rfl
      rotate_left
      ·simp only [Act.put, qT, q0, qS, i64_w, i32_w]
       rfl
      refine take_ (i := 3) (N := some 28) (v := ?_) (a' := ?_) #[true, true, true, true, true, false, false, false, false, false, false] rfl rfl (take_ofW HT_.out HW_.out (by kernel_rfl)) (fun _ _ _ h => h) (Or.inl ⟨by rfl, ?_⟩) hHeld ?_ ?_
      rotate_left
      ·rintro w' ⟨s0, s1, s2, s3, s4⟩
       go_simp
       with_reducible rfl
      rotate_left
      ·simp only [Act.put, qT, q0, qS, i64_w, i32_w]
       rfl
      refine pure_ (i := 5) (N := some 30) (v := ?_) (a' := ?_) #[true, true, true, true, true, true, false, false, false, false, false] rfl rfl (any_of HT_.out (by kernel_rfl)) (fun _ _ _ h => h) (Or.inl ⟨by rfl, ?_⟩) ?_ ?_
      rotate_left
      ·intro w'
       go_simp
       with_reducible rfl
      rotate_left
      ·simp only [Act.put, qT, q0, qS, i64_w, i32_w]
       rfl
      refine take_ (i := 6) (N := some 31) (v := ?_) (a' := ?_) #[true, true, true, true, true, true, true, false, false, false, false] rfl rfl (take_ofW HT_.out HW_.out (by kernel_rfl)) (fun _ _ _ h => h) (Or.inl ⟨by rfl, ?_⟩) hHeld ?_ ?_
      rotate_left
      ·rintro w' ⟨s0, s1, s2, s3, s4⟩
       go_simp
       with_reducible rfl
      rotate_left
      ·simp only [Act.put, qT, q0, qS, i64_w, i32_w]
       rfl
      refine one_ (i := 7) (N := some 32) #[true, true, true, true, true, true, true, true, false, false, false] rfl rfl (one_of HT_.out (by kernel_rfl)) (by decide) (fun K hK => ?_)
      refine value_ (w1 := ?_) (v := ?_) (by rfl) rfl ?_ ?_
      rotate_left 2
      ·go_simp
       constructor
       ·rfl
       rfl
      refine hK.out _ _ ⟨(blk_cell (blk_alloc BK182.out _) 0).trans rfl, (blk_cell (blk_alloc BK179.out _) 0).trans rfl, (World.cell?_alloc_lt _ _ _ (World.block_lt_of_cell? _ _ ((cl HB hw184_0)))).trans ((cl HB hw184_0)), (World.cell?_alloc_lt _ _ _ (World.block_lt_of_cell? _ _ ((cl HB hw184_1)))).trans ((cl HB hw184_1)), (World.cell?_alloc_lt _ _ _ (World.block_lt_of_cell? _ _ ((cl HB hw184_2)))).trans ((cl HB hw184_2))⟩ (fun hHeld => ?_)
      clear hK K
      refine norm_ (a' := ?_) ?_ ?_
      rotate_left
      ·show Act.put _ (some 32) _ = _
       simp only [Act.put, qT, q0, qS, i64_w, i32_w]
       rfl
      refine one_ (i := 8) (N := some 33) #[true, true, true, true, true, true, true, true, true, false, false] rfl rfl (one_of HT_.out (by kernel_rfl)) (by decide) (fun K hK => ?_)
      refine Kd.R_append_step k67 (w0 := w) w.heap.size (by rfl) (.tmp 26) (.tmp 32) 28 67 (.agg #[(.string ⟨#[]⟩), (.string ⟨#[]⟩), (.int .i64 0)]) 40 rfl Try.underlying28 info67 rfl (by decide) (by omega) u183000 x183000_1 (⟨(rd_T67 l0_0 x6_1).f0, (rd_T67 l0_0 x6_1).f1, (rd_T67 l0_0 x6_1).f2⟩ : S67) [.string ((rd_T67 l0_0 x6_1).f0), .string ((rd_T67 l0_0 x6_1).f1), .int .i64 ((rd_T67 l0_0 x6_1).f2)] (fun k_ => k_ ≠ gb180) (fun _ => False) rfl rfl ?aP (fun _ hk => hk.elim) ?aF ?aO ?aB ?aS ?aL ?_
      (case aP => exact k67_mkM _ _ _ (⟨(rd_T67 l0_0 x6_1).f0, (rd_T67 l0_0 x6_1).f1, (rd_T67 l0_0 x6_1).f2⟩ : S67))
      (case aB => exact (hS))
      (case aF => exact (fun k_ hk => Kd.freshB (g := gb180) (o := .cells #[.string a1_0, .string a1_1, .int .i64 a1_2] 67 (0, 0)) (bk BK180) k_ hk))
      (case aO => exact (by exact HO_183000.out))
      (case aS => exact (below_size (hS)))
      (case aL => have := LMc14.out; omega)
      intro v186 w21 ho hb hg hat
      rw [← Ny185.out] at ho
      replace BK179 := AM (blk_grown (g := gb179) (o := .cells #[.slice (some ad183) l0_0.length c0_0] 30 (0, 0)) (bk BK179) hg (Kd.R_ne HO_183000.out BK179.out (by decide)))
      replace BK180 := AM (blk_grown (g := gb180) (o := .cells #[.string a1_0, .string a1_1, .int .i64 a1_2] 67 (0, 0)) (bk BK180) hg (Kd.R_away HO_183000.out (fun _ hk => hk)))
      replace BK181 := AM (blk_grown (g := gb181) (o := .cells #[.slice none 0 0] 30 (0, 0)) (bk BK181) hg (Kd.R_ne HO_183000.out BK181.out (by decide)))
      replace BK182 := AM (blk_grown (g := gb182) (o := .cells #[u183000] 30 (0, 0)) (bk BK182) hg (Kd.R_ne HO_183000.out BK182.out (by decide)))
      replace HB := AM (hb)
      have HO187 := AM (ho)
      clear HO_183000
      clear ho hb hg hat
      obtain ⟨Ao22, co22, eo22⟩ := Kd.R_slice HO187.out
      (first | subst eo22 | (injection eo22 with f1_ f2_ f3_; have f4_ := f1_.symm; have f5_ := f3_.symm; clear f1_ f2_ f3_; subst f4_; subst f5_))
      refine hK.out _ _ ⟨bc BK182 0, bc BK179 0, (cl HB hw184_0), (cl HB hw184_1), (cl HB hw184_2)⟩ (fun hHeld => ?_)
      clear hK K
      refine norm_ (a' := ?_) ?_ ?_
      rotate_left
      ·show Act.put _ (some 33) _ = _
       simp only [Act.put, qT, q0, qS, i64_w, i32_w]
       rfl
      refine pure_ (i := 9) (N := some 34) (v := ?_) (a' := ?_) #[true, true, true, true, true, true, true, true, true, true, false] rfl rfl (any_of HT_.out (by kernel_rfl)) (fun _ _ _ h => h) (Or.inl ⟨by rfl, ?_⟩) ?_ ?_
      rotate_left
      ·intro w'
       go_simp
       with_reducible rfl
      rotate_left
      ·simp only [Act.put, qT, q0, qS, i64_w, i32_w]
       rfl
      refine last_ (i := 10) (N := none) #[true, true, true, true, true, true, true, true, true, true, true] rfl rfl (one_of HT_.out (by kernel_rfl)) (by decide) (fun K hK => ?_)
      have hs23 : w21.cell? ⟨gb182, 0, none⟩ = some (u183000) := bc BK182 0
      have hfs23 := bz BK182 0
      have hns23_0 := NB179_182.out
      have hns23_1 := NB180_182.out
      have hns23_2 := NB181_182.out
      have hms23_0 := NB182_179.out
      have hms23_1 := NB182_180.out
      have hms23_2 := NB182_181.out
      refine skip_ (w1 := ?_) (by rfl) rfl ?_ ?_
      rotate_left
      ·go_simp
       rfl
      refine hK.out _ _ ?_
      clear hK K
      refine done_ (done_of HT_.out (by kernel_rfl)) ?_
      try go_wp2
      go_roundg k1
      case measure => have := HK1.out; omega
      case rel => exact ⟨(wrap64 (x6_1 + 1)), (y185), (.slice Ao22 y185.length co22), sf, H', ⟨by have := HK1.out; omega⟩, ⟨by exact Kd.R_mono (Kd.R_far (p := ⟨gb182, 0, none⟩) (Kd.R_types HO187.out BK182.out (by decide)) (fun _ hk => hk.2) (.slice Ao22 y185.length co22)) (fun _ hk => hk.1)⟩, ⟨be⟩, ⟨be⟩, ⟨be⟩, ⟨by (with_reducible repeat first | apply aN | apply aD | apply aA); refine blk_put (cs := #[u183000]) ?_ 0 _ rfl; exact bk BK182⟩, ⟨hS⟩⟩
     rw [if_neg c14] at H
     exact absurd H (by simp)
    rw [if_neg c13] at H
    have c13b0 : (Op.bytesLess (((rd_T67 l0_0 x6_1).f0).toList) a1_0.toList) = false := by simpa using c13
    clear c13
    have H' := AM H
    clear H
    have hnb24 := NB179_180.out
    have hnc24 := NB180_179.out
    have hnb25 := NB179_181.out
    have hnc25 := NB181_179.out
    have hnb26 := NB179_182.out
    have hnc26 := NB182_179.out
    have hcz27_0 := bv BK179 0 (.slice A0_0 l0_0.length c0_0)
    have hfz27_0 := bz BK179 0
    try go_wp2
    replace HO_183000 := AM (Kd.R_drew HO_183000.out)
    replace BK179 := AM (blk_drew BK179.out)
    replace BK180 := AM (blk_drew BK180.out)
    replace BK181 := AM (blk_drew BK181.out)
    replace BK182 := AM (blk_drew BK182.out)
    replace HB := AM (below_drew1 HB.out)
    have p183 : 0 ≤ (x6_1 : Int) := od
    have q183 : x6_1 < (l0_0.length : Int) := od
    obtain ⟨ad183, e183, hx183_0, hx183_1, hx183_2⟩ := at_T67 HR0_0.out x6_1 p183 q183
    have hw183_2 := hx183_2
    have hw183_1 := hx183_1
    have hw183_0 := hx183_0
    cases e183
    replace hx183_0 := cl HB hx183_0
    replace hx183_1 := cl HB hx183_1
    replace hx183_2 := cl HB hx183_2
    replace p183 := eq_true p183
    replace q183 := eq_true q183
    refine start_ (n := 9) (S := fun w' => w'.cell? ⟨gb179, 0, none⟩ = some (.slice (some ad183) l0_0.length c0_0) ∧ w'.cell? ⟨gb180, 0, none⟩ = some (.string a1_0) ∧ w'.cell? ⟨gb180, 1, none⟩ = some (.string a1_1) ∧ w'.cell? ⟨gb180, 2, none⟩ = some (.int .i64 a1_2) ∧ w'.cell? (ad183.add ((x6_1).toNat * 3)) = some (.string ((rd_T67 l0_0 x6_1).f0)) ∧ w'.cell? ⟨(ad183.add ((x6_1).toNat * 3)).block, (ad183.add ((x6_1).toNat * 3)).off + 1, none⟩ = some (.string ((rd_T67 l0_0 x6_1).f1)) ∧ w'.cell? ⟨(ad183.add ((x6_1).toNat * 3)).block, (ad183.add ((x6_1).toNat * 3)).off + 2, none⟩ = some (.int .i64 ((rd_T67 l0_0 x6_1).f2))) (ds := []) #[false, false, false, false, false, false, false, false, false] (by kernel_rfl) rfl rfl ⟨bc BK179 0, bc BK180 0, bc BK180 1, bc BK180 2, (cl HB hw183_0), (cl HB hw183_1), (cl HB hw183_2)⟩ (fun hHeld => ?_); refine with_tabW spec_l03Put.tab5 spec_l03Put.bits5 (fun HT_ HW_ => ?_)
    generalize wr.drew = w28 at HO_183000 BK179 BK180 BK181 BK182 HB hx183_0 hx183_1 hx183_2 hHeld ⊢
    refine pure_ (i := 0) (N := some 16) (v := ?_) (a' := ?_) #[true, false, false, false, false, false, false, false, false] rfl rfl (any_of HT_.out (by kernel_rfl)) (fun _ _ _ h => h) (Or.inl ⟨by rfl, ?_⟩) ?_ ?_
    rotate_left
    ·intro w'
     go_simp
     with_reducible rfl
    rotate_left
    ·simp only [Act.put, qT, q0, qS, i64_w, i32_w]
     rfl
    refine pure_ (i := 2) (N := some 18) (v := ?_) (a' := ?_) #[true, false, true, false, false, false, false, false, false] rfl rfl (any_of HT_.out (by kernel_rfl)) (fun _ _ _ h => h) (Or.inl ⟨by rfl, ?_⟩) ?_ ?_
    rotate_left
    ·intro w'
     go_simp
     with_reducible rfl
    rotate_left
    ·simp only [Act.put, qT, q0, qS, i64_w, i32_w]
     rfl
    refine pure_ (i := 6) (N := some 22) (v := ?_) (a' := ?_) #[true, false, true, false, false, false, true, false, false] rfl rfl (any_of HT_.out (by kernel_rfl)) (fun _ _ _ h => h) (Or.inl ⟨by rfl, ?_⟩) ?_ ?_
    rotate_left
    ·intro w'
     go_simp
     with_reducible rfl
    rotate_left
    ·simp only [Act.put, qT, q0, qS, i64_w, i32_w]
     rfl
    refine take_ (i := 1) (N := some 17) (v := ?_) (a' := ?_) #[true, true, true, false, false, false, true, false, false] rfl rfl (take_ofW HT_.out HW_.out (by kernel_rfl)) (fun _ _ _ h => h) (Or.inl ⟨by rfl, ?_⟩) hHeld ?_ ?_
    rotate_left
    ·rintro w' ⟨s0, s1, s2, s3, s4, s5, s6⟩
     go_simp
     with_reducible rfl
    rotate_left
    ·simp only [Act.put, qT, q0, qS, i64_w, i32_w]
     rfl
    refine pure_ (i := 3) (N := some 19) (v := ?_) (a' := ?_) #[true, true, true, true, false, false, true, false, false] rfl rfl (any_of HT_.out (by kernel_rfl)) (fun _ _ _ h => h) (Or.inl ⟨by rfl, ?_⟩) ?_ ?_
    rotate_left
    ·intro w'
     go_simp
     with_reducible rfl
    rotate_left
    ·simp only [Act.put, qT, q0, qS, i64_w, i32_w]
     rfl
    refine pure_ (i := 4) (N := some 20) (v := ?_) (a' := ?_) #[true, true, true, true, true, false, true, false, false] rfl rfl (any_of HT_.out (by kernel_rfl)) (fun _ _ _ h => h) (Or.inl ⟨by rfl, ?_⟩) ?_ ?_
    rotate_left
    ·intro w'
     go_simp
     with_reducible rfl
    rotate_left
    ·simp only [Act.put, qT, q0, qS, i64_w, i32_w]
     rfl
    refine take_ (i := 5) (N := some 21) (v := ?_) (a' := ?_) #[true, true, true, true, true, true, true, false, false] rfl rfl (take_ofW HT_.out HW_.out (by kernel_rfl)) (fun _ _ _ h => h) (Or.inl ⟨by rfl, ?_⟩) hHeld ?_ ?_
    rotate_left
    ·rintro w' ⟨s0, s1, s2, s3, s4, s5, s6⟩
     go_simp
     with_reducible rfl
    rotate_left
    ·simp only [Act.put, qT, q0, qS, i64_w, i32_w]
     rfl
    refine take_ (i := 7) (N := some 23) (v := ?_) (a' := ?_) #[true, true, true, true, true, true, true, true, false] rfl rfl (take_ofW HT_.out HW_.out (by kernel_rfl)) (fun _ _ _ h => h) (Or.inl ⟨by rfl, ?_⟩) hHeld ?_ ?_
    rotate_left
    ·rintro w' ⟨s0, s1, s2, s3, s4, s5, s6⟩
     go_simp
     with_reducible rfl
    rotate_left
    ·simp only [Act.put, qT, q0, qS, i64_w, i32_w]
     rfl
    refine pure_ (i := 8) (N := some 24) (v := ?_) (a' := ?_) #[true, true, true, true, true, true, true, true, true] rfl rfl (any_of HT_.out (by kernel_rfl)) (fun _ _ _ h => h) (Or.inl ⟨by rfl, ?_⟩) ?_ ?_
    rotate_left
    ·intro w'
     go_simp
     with_reducible rfl
    rotate_left
    ·simp only [Act.put, qT, q0, qS, i64_w, i32_w]
     rfl
    refine done_ (done_of HT_.out (by kernel_rfl)) ?_
    try go_wp2
    go_roundg k1
    case measure => have := HK1.out; omega
    case rel => exact ⟨(wrap64 (x6_1 + 1)), (x183000_1), (u183000), sf, H', ⟨by have := HK1.out; omega⟩, ⟨by exact HO_183000.out⟩, ⟨bk BK179⟩, ⟨bk BK180⟩, ⟨bk BK181⟩, ⟨bk BK182⟩, ⟨hS⟩⟩
   rw [if_neg c12] at H
   exact absurd H (by simp)
  rw [if_neg c11] at H
  have c11b0 : decide (x6_1 < (l0_0.length : Int)) = false := decide_eq_false c11
  clear c11
  by_cases c29 : x183000_1.length < 3518437208883
  ·rw [if_pos c29] at H
   have LMc29 := AM c29
   clear c29
   obtain ⟨y188, hy188⟩ : ∃ y_ : List (S67), y_ = (x183000_1 ++ [(⟨a1_0, a1_1, a1_2⟩ : S67)]) := ⟨_, rfl⟩
   replace H : (spec_l03Put.l1 k1 0 l0_0 a1_0 a1_1 a1_2 y188) = some r := by first | (rw [hy188]; with_reducible exact H) | (have H2_ := (Option.bind_some _ _).symm.trans H; rw [hy188]; with_reducible exact H2_) | (have H2_ := (Option.bind_some _ _).symm.trans H; with_reducible exact H2_) | with_reducible exact H | (rw [hy188]; exact H) | exact H
   have Ny188 := AM hy188
   clear hy188
   have H' := AM H
   clear H
   have hnb30 := NB179_180.out
   have hnc30 := NB180_179.out
   have hnb31 := NB179_181.out
   have hnc31 := NB181_179.out
   have hnb32 := NB179_182.out
   have hnc32 := NB182_179.out
   have hcz33_0 := bv BK179 0 (.slice A0_0 l0_0.length c0_0)
   have hfz33_0 := bz BK179 0
   have hnb34 := NB182_180.out
   have hnc34 := NB180_182.out
   have hnb35 := NB182_181.out
   have hnc35 := NB181_182.out
   have hcz36_0 := bv BK182 0 (u183000)
   have hfz36_0 := bz BK182 0
   have hnb37 := NB180_181.out
   have hnc37 := NB181_180.out
   have hcz38_0 := bv BK180 0 (.string a1_0)
   have hcz38_1 := bv BK180 1 (.string a1_1)
   have hcz38_2 := bv BK180 2 (.int .i64 a1_2)
   have hfz38_0 := bz BK180 0
   have hfz38_1 := bz BK180 1
   have hfz38_2 := bz BK180 2
   go_wp2_with (first | ((with_reducible refine gate_builtin (b := .append) (xs := #[.tmp 36, .tmp 38]) rfl ?_); at_builtin; refine Kd.R_append k67 (w0 := w) w.heap.size rfl (.tmp 36) (.tmp 38) 28 67 (.agg #[(.string ⟨#[]⟩), (.string ⟨#[]⟩), (.int .i64 0)]) 40 rfl Try.underlying28 info67 rfl (by decide) (by omega) u183000 x183000_1 (⟨a1_0, a1_1, a1_2⟩ : S67) [.string a1_0, .string a1_1, .int .i64 a1_2] (fun k_ => k_ ≠ gb180) (fun _ => False) rfl rfl ?aP (fun _ hk => hk.elim) ?aF ?aO ?aB ?aS ?aL ?_; (case aP => exact k67_mkM _ _ _ (⟨a1_0, a1_1, a1_2⟩ : S67)); (case aB => exact (hS)); (case aF => exact (fun k_ hk => Kd.freshB (g := gb180) (o := .cells #[.string a1_0, .string a1_1, .int .i64 a1_2] 67 (0, 0)) (bk BK180) k_ hk)); (case aO => exact (by exact HO_183000.out)); (case aS => exact (below_size (hS))); (case aL => have := LMc29.out; omega); intro v189 w39 ho hb hg hat; rw [← Ny188.out] at ho; replace BK179 := AM (blk_grown (g := gb179) (o := .cells #[.slice A0_0 l0_0.length c0_0] 30 (0, 0)) (bk BK179) hg (Kd.R_ne HO_183000.out BK179.out (by decide))); replace BK180 := AM (blk_grown (g := gb180) (o := .cells #[.string a1_0, .string a1_1, .int .i64 a1_2] 67 (0, 0)) (bk BK180) hg (Kd.R_away HO_183000.out (fun _ hk => hk))); replace BK181 := AM (blk_grown (g := gb181) (o := .cells #[.slice none 0 0] 30 (0, 0)) (bk BK181) hg (Kd.R_ne HO_183000.out BK181.out (by decide))); replace BK182 := AM (blk_grown (g := gb182) (o := .cells #[u183000] 30 (0, 0)) (bk BK182) hg (Kd.R_ne HO_183000.out BK182.out (by decide))); replace HB := AM (hb); have HO190 := AM (ho); clear HO_183000; clear ho hb hg hat; obtain ⟨Ao40, co40, eo40⟩ := Kd.R_slice HO190.out; subst eo40; have hcz41_0 := bv BK182 0 (u183000); have hfz41_0 := bz BK182 0))
   go_loopg [7] k1 (fun kq v7 w' => ∃ (x7_2 : Int) (x183000_2 : List (S67)) (u183000 : Value), v7 = .int .i64 x7_2 ∧ Aside0 (spec_l03Put.l1 kq x7_2 l0_0 a1_0 a1_1 a1_2 x183000_2 = some r) ∧ Aside0 (kq ≤ k1) ∧ Aside0 (Kd.R k67 67 w' w.heap.size (fun k_ => k_ ≠ gb180) u183000 x183000_2) ∧ Aside0 (w'.heap[gb179]? = some (.cells #[(.slice A0_0 l0_0.length c0_0)] 30 (0, 0))) ∧ Aside0 (w'.heap[gb180]? = some (.cells #[.string a1_0, .string a1_1, .int .i64 a1_2] 67 (0, 0))) ∧ Aside0 (w'.heap[gb181]? = some (.cells #[(.slice none 0 0)] 30 (0, 0))) ∧ Aside0 (w'.heap[gb182]? = some (.cells #[u183000] 30 (0, 0))) ∧ Aside0 (Below w.heap.size w w'))
   case atStart => exact ⟨(0), (y188), (.slice Ao40 y188.length co40), sf, H', ⟨Nat.le_refl _⟩, ⟨by exact Kd.R_mono (Kd.R_far (p := ⟨gb182, 0, none⟩) (Kd.R_types HO190.out BK182.out (by decide)) (fun _ hk => hk.2) (.slice Ao40 y188.length co40)) (fun _ hk => hk.1)⟩, ⟨be⟩, ⟨be⟩, ⟨be⟩, ⟨by (with_reducible repeat first | apply aN | apply aD | apply aA); refine blk_put (cs := #[u183000]) ?_ 0 _ rfl; exact bk BK182⟩, ⟨hS⟩⟩
   clear H'
   obtain ⟨x7_2, x183000_2, u183000, rfl, HA, HK2, HO_183000, BK179, BK180, BK181, BK182, HB⟩ := hrel
   cases gk with
   | zero => exact absurd HA.out (by simp [spec_l03Put.l1])
   | succ k2 =>
    have H := HA.out
    clear HA
    simp only [spec_l03Put.l1] at H
    by_cases c42 : x7_2 < (l0_0.length : Int)
    ·rw [if_pos c42] at H
     have c42b0 : decide (x7_2 < (l0_0.length : Int)) = true := decide_eq_true c42
     clear c42
     by_cases c43 : 0 ≤ x7_2
     ·rw [if_pos c43] at H
      have c43b0 : decide (0 ≤ x7_2) = true := decide_eq_true c43
      clear c43
      by_cases c44 : (Op.bytesLess a1_0.toList (((rd_T67 l0_0 x7_2).f0).toList)) = true
      ·rw [if_pos c44] at H
       have c44b0 : (Op.bytesLess a1_0.toList (((rd_T67 l0_0 x7_2).f0).toList)) = true := c44
       clear c44
       by_cases c45 : x183000_2.length < 3518437208883
       ·rw [if_pos c45] at H
        have LMc45 := AM c45
        clear c45
        obtain ⟨y193, hy193⟩ : ∃ y_ : List (S67), y_ = (x183000_2 ++ [(⟨(rd_T67 l0_0 x7_2).f0, (rd_T67 l0_0 x7_2).f1, (rd_T67 l0_0 x7_2).f2⟩ : S67)]) := ⟨_, rfl⟩
        replace H : (spec_l03Put.l1 k2 (wrap64 (x7_2 + 1)) l0_0 a1_0 a1_1 a1_2 y193) = some r := by first | (rw [hy193]; with_reducible exact H) | (have H2_ := (Option.bind_some _ _).symm.trans H; rw [hy193]; with_reducible exact H2_) | (have H2_ := (Option.bind_some _ _).symm.trans H; with_reducible exact H2_) | with_reducible exact H | (rw [hy193]; exact H) | exact H
        have Ny193 := AM hy193
        clear hy193
        have H' := AM H
        clear H
        have hnb46 := NB179_180.out
        have hnc46 := NB180_179.out
        have hnb47 := NB179_181.out
        have hnc47 := NB181_179.out
        have hnb48 := NB179_182.out
        have hnc48 := NB182_179.out
        have hcz49_0 := bv BK179 0 (.slice A0_0 l0_0.length c0_0)
        have hfz49_0 := bz BK179 0
        try go_wp2
        replace HO_183000 := AM (Kd.R_drew HO_183000.out)
        replace BK179 := AM (blk_drew BK179.out)
        replace BK180 := AM (blk_drew BK180.out)
        replace BK181 := AM (blk_drew BK181.out)
        replace BK182 := AM (blk_drew BK182.out)
        replace HB := AM (below_drew1 HB.out)
        have p191 : 0 ≤ (x7_2 : Int) := od
        have q191 : x7_2 < (l0_0.length : Int) := od
        obtain ⟨ad191, e191, hx191_0, hx191_1, hx191_2⟩ := at_T67 HR0_0.out x7_2 p191 q191
        have hw191_2 := hx191_2
        have hw191_1 := hx191_1
        have hw191_0 := hx191_0
        cases e191
        replace hx191_0 := cl HB hx191_0
        replace hx191_1 := cl HB hx191_1
        replace hx191_2 := cl HB hx191_2
        replace p191 := eq_true p191
        replace q191 := eq_true q191
        refine start_ (n := 9) (S := fun w' => w'.cell? ⟨gb179, 0, none⟩ = some (.slice (some ad191) l0_0.length c0_0) ∧ w'.cell? ⟨gb180, 0, none⟩ = some (.string a1_0) ∧ w'.cell? ⟨gb180, 1, none⟩ = some (.string a1_1) ∧ w'.cell? ⟨gb180, 2, none⟩ = some (.int .i64 a1_2) ∧ w'.cell? (ad191.add ((x7_2).toNat * 3)) = some (.string ((rd_T67 l0_0 x7_2).f0)) ∧ w'.cell? ⟨(ad191.add ((x7_2).toNat * 3)).block, (ad191.add ((x7_2).toNat * 3)).off + 1, none⟩ = some (.string ((rd_T67 l0_0 x7_2).f1)) ∧ w'.cell? ⟨(ad191.add ((x7_2).toNat * 3)).block, (ad191.add ((x7_2).toNat * 3)).off + 2, none⟩ = some (.int .i64 ((rd_T67 l0_0 x7_2).f2))) (ds := []) #[false, false, false, false, false, false, false, false, false] (by kernel_rfl) rfl rfl ⟨bc BK179 0, bc BK180 0, bc BK180 1, bc BK180 2, (cl HB hw191_0), (cl HB hw191_1), (cl HB hw191_2)⟩ (fun hHeld => ?_); refine with_tabW spec_l03Put.tab11 spec_l03Put.bits11 (fun HT_ HW_ => ?_)
        generalize wr.drew = w50 at HO_183000 BK179 BK180 BK181 BK182 HB hx191_0 hx191_1 hx191_2 hHeld ⊢
        refine pure_ (i := 0) (N := some 48) (v := ?_) (a' := ?_) #[true, false, false, false, false, false, false, false, false] rfl rfl (any_of HT_.out (by kernel_rfl)) (fun _ _ _ h => h) (Or.inl ⟨by rfl, ?_⟩) ?_ ?_
        rotate_left
        ·intro w'
         go_simp
         with_reducible rfl
        rotate_left
        ·simp only [Act.put, qT, q0, qS, i64_w, i32_w]
         rfl
        refine pure_ (i := 2) (N := some 50) (v := ?_) (a' := ?_) #[true, false, true, false, false, false, false, false, false] rfl rfl (any_of HT_.out (by kernel_rfl)) (fun _ _ _ h => h) (Or.inl ⟨by rfl, ?_⟩) ?_ ?_
        rotate_left
        ·intro w'
         go_simp
         with_reducible rfl
        rotate_left
        ·simp only [Act.put, qT, q0, qS, i64_w, i32_w]
         rfl
        refine pure_ (i := 6) (N := some 54) (v := ?_) (a' := ?_) #[true, false, true, false, false, false, true, false, false] rfl rfl (any_of HT_.out (by kernel_rfl)) (fun _ _ _ h => h) (Or.inl ⟨by rfl, ?_⟩) ?_ ?_
        rotate_left
        ·intro w'
         go_simp
         with_reducible rfl
        rotate_left
        ·simp only [Act.put, qT, q0, qS, i64_w, i32_w]
         rfl
        refine take_ (i := 1) (N := some 49) (v := ?_) (a' := ?_) #[true, true, true, false, false, false, true, false, false] rfl rfl (take_ofW HT_.out HW_.out (by kernel_rfl)) (fun _ _ _ h => h) (Or.inl ⟨by rfl, ?_⟩) hHeld ?_ ?_
        rotate_left
        ·rintro w' ⟨s0, s1, s2, s3, s4, s5, s6⟩
         go_simp
         with_reducible rfl
        rotate_left
        ·simp only [Act.put, qT, q0, qS, i64_w, i32_w]
         rfl
        refine pure_ (i := 3) (N := some 51) (v := ?_) (a' := ?_) #[true, true, true, true, false, false, true, false, false] rfl rfl (any_of HT_.out (by kernel_rfl)) (fun _ _ _ h => h) (Or.inl ⟨by rfl, ?_⟩) ?_ ?_
        rotate_left
        ·intro w'
         go_simp
         with_reducible rfl
        rotate_left
        ·simp only [Act.put, qT, q0, qS, i64_w, i32_w]
         rfl
        refine pure_ (i := 4) (N := some 52) (v := ?_) (a' := ?_) #[true, true, true, true, true, false, true, false, false] rfl rfl (any_of HT_.out (by kernel_rfl)) (fun _ _ _ h => h) (Or.inl ⟨by rfl, ?_⟩) ?_ ?_
        rotate_left
        ·intro w'
         go_simp
         with_reducible rfl
        rotate_left
        ·simp only [Act.put, qT, q0, qS, i64_w, i32_w]
         rfl
        refine take_ (i := 5) (N := some 53) (v := ?_) (a' := ?_) #[true, true, true, true, true, true, true, false, false] rfl rfl (take_ofW HT_.out HW_.out (by kernel_rfl)) (fun _ _ _ h => h) (Or.inl ⟨by rfl, ?_⟩) hHeld ?_ ?_
        rotate_left
        ·rintro w' ⟨s0, s1, s2, s3, s4, s5, s6⟩
         go_simp
         with_reducible rfl
        rotate_left
        ·simp only [Act.put, qT, q0, qS, i64_w, i32_w]
         rfl
        refine take_ (i := 7) (N := some 55) (v := ?_) (a' := ?_) #[true, true, true, true, true, true, true, true, false] rfl rfl (take_ofW HT_.out HW_.out (by kernel_rfl)) (fun _ _ _ h => h) (Or.inl ⟨by rfl, ?_⟩) hHeld ?_ ?_
        rotate_left
        ·rintro w' ⟨s0, s1, s2, s3, s4, s5, s6⟩
         go_simp
         with_reducible rfl
        rotate_left
        ·simp only [Act.put, qT, q0, qS, i64_w, i32_w]
         rfl
        refine pure_ (i := 8) (N := some 56) (v := ?_) (a' := ?_) #[true, true, true, true, true, true, true, true, true] rfl rfl (any_of HT_.out (by kernel_rfl)) (fun _ _ _ h => h) (Or.inl ⟨by rfl, ?_⟩) ?_ ?_
        rotate_left
        ·intro w'
         go_simp
         with_reducible rfl
        rotate_left
        ·simp only [Act.put, qT, q0, qS, i64_w, i32_w]
         rfl
        refine done_ (done_of HT_.out (by kernel_rfl)) ?_
        try go_wp2
        replace HO_183000 := AM (Kd.R_drew HO_183000.out)
        replace BK179 := AM (blk_drew BK179.out)
        replace BK180 := AM (blk_drew BK180.out)
        replace BK181 := AM (blk_drew BK181.out)
        replace BK182 := AM (blk_drew BK182.out)
        replace HB := AM (below_drew1 HB.out)
        have p192 : 0 ≤ (x7_2 : Int) := od
        have q192 : x7_2 < (l0_0.length : Int) := od
        obtain ⟨ad192, e192, hx192_0, hx192_1, hx192_2⟩ := at_T67 HR0_0.out x7_2 p192 q192
        have hw192_2 := hx192_2
        have hw192_1 := hx192_1
        have hw192_0 := hx192_0
        obtain rfl : ad191 = ad192 := (by injection e192)
        replace hx192_0 := cl HB hx192_0
        replace hx192_1 := cl HB hx192_1
        replace hx192_2 := cl HB hx192_2
        replace p192 := eq_true p192
        replace q192 := eq_true q192
        refine start_ (n := 11) (S := fun w' => w'.cell? ⟨gb182, 0, none⟩ = some (u183000) ∧ w'.cell? ⟨gb179, 0, none⟩ = some (.slice (some ad191) l0_0.length c0_0) ∧ w'.cell? (ad191.add ((x7_2).toNat * 3)) = some (.string ((rd_T67 l0_0 x7_2).f0)) ∧ w'.cell? ⟨(ad191.add ((x7_2).toNat * 3)).block, (ad191.add ((x7_2).toNat * 3)).off + 1, none⟩ = some (.string ((rd_T67 l0_0 x7_2).f1)) ∧ w'.cell? ⟨(ad191.add ((x7_2).toNat * 3)).block, (ad191.add ((x7_2).toNat * 3)).off + 2, none⟩ = some (.int .i64 ((rd_T67 l0_0 x7_2).f2))) (ds := [10]) #[false, false, false, false, false, false, false, false, false, false, false] (by kernel_rfl) rfl rfl ⟨bc BK182 0, bc BK179 0, (cl HB hw192_0), (cl HB hw192_1), (cl HB hw192_2)⟩ (fun hHeld => ?_); refine with_tabW spec_l03Put.tab12 spec_l03Put.bits12 (fun HT_ HW_ => ?_)
        generalize w50.drew = w51 at HO_183000 BK179 BK180 BK181 BK182 HB hx192_0 hx192_1 hx192_2 hHeld ⊢
        refine pure_ (i := 0) (N := some 57) (v := ?_) (a' := ?_) #[true, false, false, false, false, false, false, false, false, false, false] rfl rfl (any_of HT_.out (by kernel_rfl)) (fun _ _ _ h => h) (Or.inl ⟨by rfl, ?_⟩) ?_ ?_
        rotate_left
        ·intro w'
         go_simp
         with_reducible rfl
        rotate_left
        ·simp only [Act.put, qT, q0, qS, i64_w, i32_w]
         rfl
        refine pure_ (i := 2) (N := some 59) (v := ?_) (a' := ?_) #[true, false, true, false, false, false, false, false, false, false, false] rfl rfl (any_of HT_.out (by kernel_rfl)) (fun _ _ _ h => h) (Or.inl ⟨by rfl, ?_⟩) ?_ ?_
        rotate_left
        ·intro w'
         go_simp
         with_reducible rfl
        rotate_left
        ·simp only [Act.put, qT, q0, qS, i64_w, i32_w]
         rfl
        refine pure_ (i := 4) (N := some 61) (v := ?_) (a' := ?_) #[true, false, true, false, true, false, false, false, false, false, false] rfl rfl (any_of HT_.out (by kernel_rfl)) (fun _ _ _ h => h) (Or.inl ⟨by rfl, ?_⟩) ?_ ?_
        rotate_left
        ·intro w'
         go_simp
         with_reducible rfl
        rotate_left
        ·simp only [Act.put, qT, q0, qS, i64_w, i32_w]
         rfl
        refine take_ (i := 1) (N := some 58) (v := ?_) (a' := ?_) #[true, true, true, false, true, false, false, false, false, false, false] rfl rfl (take_ofW HT_.out HW_.out (by kernel_rfl)) (fun _ _ _ h => h) (Or.inl ⟨by rfl, ?_⟩) hHeld ?_ ?_
        rotate_left
        ·rintro w' ⟨s0, s1, s2, s3, s4⟩
         go_simp
         with_reducible rfl
        rotate_left
        ·simp only [Act.put, qT, q0, qS, i64_w, i32_w]
         rfl
        refine take_ (i := 3) (N := some 60) (v := ?_) (a' := ?_) #[true, true, true, true, true, false, false, false, false, false, false] rfl rfl (take_ofW HT_.out HW_.out (by kernel_rfl)) (fun _ _ _ h => h) (Or.inl ⟨by rfl, ?_⟩) hHeld ?_ ?_
        rotate_left
        ·rintro w' ⟨s0, s1, s2, s3, s4⟩
         go_simp
         with_reducible rfl
        rotate_left
        ·simp only [Act.put, qT, q0, qS, i64_w, i32_w]
         rfl
        refine pure_ (i := 5) (N := some 62) (v := ?_) (a' := ?_) #[true, true, true, true, true, true, false, false, false, false, false] rfl rfl (any_of HT_.out (by kernel_rfl)) (fun _ _ _ h => h) (Or.inl ⟨by rfl, ?_⟩) ?_ ?_
        rotate_left
        ·intro w'
         go_simp
         with_reducible rfl
        rotate_left
        ·simp only [Act.put, qT, q0, qS, i64_w, i32_w]
         rfl
        refine take_ (i := 6) (N := some 63) (v := ?_) (a' := ?_) #[true, true, true, true, true, true, true, false, false, false, false] rfl rfl (take_ofW HT_.out HW_.out (by kernel_rfl)) (fun _ _ _ h => h) (Or.inl ⟨by rfl, ?_⟩) hHeld ?_ ?_
        rotate_left
        ·rintro w' ⟨s0, s1, s2, s3, s4⟩
         go_simp
         with_reducible rfl
        rotate_left
        ·simp only [Act.put, qT, q0, qS, i64_w, i32_w]
         rfl
        refine one_ (i := 7) (N := some 64) #[true, true, true, true, true, true, true, true, false, false, false] rfl rfl (one_of HT_.out (by kernel_rfl)) (by decide) (fun K hK => ?_)
        refine value_ (w1 := ?_) (v := ?_) (by rfl) rfl ?_ ?_
        rotate_left 2
        ·go_simp
         constructor
         ·rfl
         rfl
        refine hK.out _ _ ⟨(blk_cell (blk_alloc BK182.out _) 0).trans rfl, (blk_cell (blk_alloc BK179.out _) 0).trans rfl, (World.cell?_alloc_lt _ _ _ (World.block_lt_of_cell? _ _ ((cl HB hw192_0)))).trans ((cl HB hw192_0)), (World.cell?_alloc_lt _ _ _ (World.block_lt_of_cell? _ _ ((cl HB hw192_1)))).trans ((cl HB hw192_1)), (World.cell?_alloc_lt _ _ _ (World.block_lt_of_cell? _ _ ((cl HB hw192_2)))).trans ((cl HB hw192_2))⟩ (fun hHeld => ?_)
        clear hK K
        refine norm_ (a' := ?_) ?_ ?_
        rotate_left
        ·show Act.put _ (some 64) _ = _
         simp only [Act.put, qT, q0, qS, i64_w, i32_w]
         rfl
        refine one_ (i := 8) (N := some 65) #[true, true, true, true, true, true, true, true, true, false, false] rfl rfl (one_of HT_.out (by kernel_rfl)) (by decide) (fun K hK => ?_)
        refine Kd.R_append_step k67 (w0 := w) w.heap.size (by rfl) (.tmp 58) (.tmp 64) 28 67 (.agg #[(.string ⟨#[]⟩), (.string ⟨#[]⟩), (.int .i64 0)]) 40 rfl Try.underlying28 info67 rfl (by decide) (by omega) u183000 x183000_2 (⟨(rd_T67 l0_0 x7_2).f0, (rd_T67 l0_0 x7_2).f1, (rd_T67 l0_0 x7_2).f2⟩ : S67) [.string ((rd_T67 l0_0 x7_2).f0), .string ((rd_T67 l0_0 x7_2).f1), .int .i64 ((rd_T67 l0_0 x7_2).f2)] (fun k_ => k_ ≠ gb180) (fun _ => False) rfl rfl ?aP (fun _ hk => hk.elim) ?aF ?aO ?aB ?aS ?aL ?_
        (case aP => exact k67_mkM _ _ _ (⟨(rd_T67 l0_0 x7_2).f0, (rd_T67 l0_0 x7_2).f1, (rd_T67 l0_0 x7_2).f2⟩ : S67))
        (case aB => exact (hS))
        (case aF => exact (fun k_ hk => Kd.freshB (g := gb180) (o := .cells #[.string a1_0, .string a1_1, .int .i64 a1_2] 67 (0, 0)) (bk BK180) k_ hk))
        (case aO => exact (by exact HO_183000.out))
        (case aS => exact (below_size (hS)))
        (case aL => have := LMc45.out; omega)
        intro v194 w52 ho hb hg hat
        rw [← Ny193.out] at ho
        replace BK179 := AM (blk_grown (g := gb179) (o := .cells #[.slice (some ad191) l0_0.length c0_0] 30 (0, 0)) (bk BK179) hg (Kd.R_ne HO_183000.out BK179.out (by decide)))
        replace BK180 := AM (blk_grown (g := gb180) (o := .cells #[.string a1_0, .string a1_1, .int .i64 a1_2] 67 (0, 0)) (bk BK180) hg (Kd.R_away HO_183000.out (fun _ hk => hk)))
        replace BK181 := AM (blk_grown (g := gb181) (o := .cells #[.slice none 0 0] 30 (0, 0)) (bk BK181) hg (Kd.R_ne HO_183000.out BK181.out (by decide)))
        replace BK182 := AM (blk_grown (g := gb182) (o := .cells #[u183000] 30 (0, 0)) (bk BK182) hg (Kd.R_ne HO_183000.out BK182.out (by decide)))
        replace HB := AM (hb)
        have HO195 := AM (ho)
        clear HO_183000
        clear ho hb hg hat
        obtain ⟨Ao53, co53, eo53⟩ := Kd.R_slice HO195.out
        (first | subst eo53 | (injection eo53 with f1_ f2_ f3_; have f4_ := f1_.symm; have f5_ := f3_.symm; clear f1_ f2_ f3_; subst f4_; subst f5_))
        refine hK.out _ _ ⟨bc BK182 0, bc BK179 0, (cl HB hw192_0), (cl HB hw192_1), (cl HB hw192_2)⟩ (fun hHeld => ?_)
        clear hK K
        refine norm_ (a' := ?_) ?_ ?_
        rotate_left
        ·show Act.put _ (some 65) _ = _
         simp only [Act.put, qT, q0, qS, i64_w, i32_w]
         rfl
        refine pure_ (i := 9) (N := some 66) (v := ?_) (a' := ?_) #[true, true, true, true, true, true, true, true, true, true, false] rfl rfl (any_of HT_.out (by kernel_rfl)) (fun _ _ _ h => h) (Or.inl ⟨by rfl, ?_⟩) ?_ ?_
        rotate_left
        ·intro w'
         go_simp
         with_reducible rfl
        rotate_left
        ·simp only [Act.put, qT, q0, qS, i64_w, i32_w]
         rfl
        refine last_ (i := 10) (N := none) #[true, true, true, true, true, true, true, true, true, true, true] rfl rfl (one_of HT_.out (by kernel_rfl)) (by decide) (fun K hK => ?_)
        have hs54 : w52.cell? ⟨gb182, 0, none⟩ = some (u183000) := bc BK182 0
        have hfs54 := bz BK182 0
        have hns54_0 := NB179_182.out
        have hns54_1 := NB180_182.out
        have hns54_2 := NB181_182.out
        have hms54_0 := NB182_179.out
        have hms54_1 := NB182_180.out
        have hms54_2 := NB182_181.out
        refine skip_ (w1 := ?_) (by rfl) rfl ?_ ?_
        rotate_left
        ·go_simp
         rfl
        refine hK.out _ _ ?_
        clear hK K
        refine done_ (done_of HT_.out (by kernel_rfl)) ?_
        try go_wp2
        go_roundg k2
        case measure => have := HK1.out; have := HK2.out; omega
        case rel => exact ⟨(wrap64 (x7_2 + 1)), (y193), (.slice Ao53 y193.length co53), sf, H', ⟨by have := HK1.out; have := HK2.out; omega⟩, ⟨by exact Kd.R_mono (Kd.R_far (p := ⟨gb182, 0, none⟩) (Kd.R_types HO195.out BK182.out (by decide)) (fun _ hk => hk.2) (.slice Ao53 y193.length co53)) (fun _ hk => hk.1)⟩, ⟨be⟩, ⟨be⟩, ⟨be⟩, ⟨by (with_reducible repeat first | apply aN | apply aD | apply aA); refine blk_put (cs := #[u183000]) ?_ 0 _ rfl; exact bk BK182⟩, ⟨hS⟩⟩
       rw [if_neg c45] at H
       exact absurd H (by simp)
      rw [if_neg c44] at H
      have c44b0 : (Op.bytesLess a1_0.toList (((rd_T67 l0_0 x7_2).f0).toList)) = false := by simpa using c44
      clear c44
      have H' := AM H
      clear H
      have hnb55 := NB179_180.out
      have hnc55 := NB180_179.out
      have hnb56 := NB179_181.out
      have hnc56 := NB181_179.out
      have hnb57 := NB179_182.out
      have hnc57 := NB182_179.out
      have hcz58_0 := bv BK179 0 (.slice A0_0 l0_0.length c0_0)
      have hfz58_0 := bz BK179 0
      try go_wp2
      replace HO_183000 := AM (Kd.R_drew HO_183000.out)
      replace BK179 := AM (blk_drew BK179.out)
      replace BK180 := AM (blk_drew BK180.out)
      replace BK181 := AM (blk_drew BK181.out)
      replace BK182 := AM (blk_drew BK182.out)
      replace HB := AM (below_drew1 HB.out)
      have p191 : 0 ≤ (x7_2 : Int) := od
      have q191 : x7_2 < (l0_0.length : Int) := od
      obtain ⟨ad191, e191, hx191_0, hx191_1, hx191_2⟩ := at_T67 HR0_0.out x7_2 p191 q191
      have hw191_2 := hx191_2
      have hw191_1 := hx191_1
      have hw191_0 := hx191_0
      cases e191
      replace hx191_0 := cl HB hx191_0
      replace hx191_1 := cl HB hx191_1
      replace hx191_2 := cl HB hx191_2
      replace p191 := eq_true p191
      replace q191 := eq_true q191
      refine start_ (n := 9) (S := fun w' => w'.cell? ⟨gb179, 0, none⟩ = some (.slice (some ad191) l0_0.length c0_0) ∧ w'.cell? ⟨gb180, 0, none⟩ = some (.string a1_0) ∧ w'.cell? ⟨gb180, 1, none⟩ = some (.string a1_1) ∧ w'.cell? ⟨gb180, 2, none⟩ = some (.int .i64 a1_2) ∧ w'.cell? (ad191.add ((x7_2).toNat * 3)) = some (.string ((rd_T67 l0_0 x7_2).f0)) ∧ w'.cell? ⟨(ad191.add ((x7_2).toNat * 3)).block, (ad191.add ((x7_2).toNat * 3)).off + 1, none⟩ = some (.string ((rd_T67 l0_0 x7_2).f1)) ∧ w'.cell? ⟨(ad191.add ((x7_2).toNat * 3)).block, (ad191.add ((x7_2).toNat * 3)).off + 2, none⟩ = some (.int .i64 ((rd_T67 l0_0 x7_2).f2))) (ds := []) #[false, false, false, false, false, false, false, false, false] (by kernel_rfl) rfl rfl ⟨bc BK179 0, bc BK180 0, bc BK180 1, bc BK180 2, (cl HB hw191_0), (cl HB hw191_1), (cl HB hw191_2)⟩ (fun hHeld => ?_); refine with_tabW spec_l03Put.tab11 spec_l03Put.bits11 (fun HT_ HW_ => ?_)
      generalize wr.drew = w59 at HO_183000 BK179 BK180 BK181 BK182 HB hx191_0 hx191_1 hx191_2 hHeld ⊢
      refine pure_ (i := 0) (N := some 48) (v := ?_) (a' := ?_) #[true, false, false, false, false, false, false, false, false] rfl rfl (any_of HT_.out (by kernel_rfl)) (fun _ _ _ h => h) (Or.inl ⟨by rfl, ?_⟩) ?_ ?_
      rotate_left
      ·intro w'
       go_simp
       with_reducible rfl
      rotate_left
      ·simp only [Act.put, qT, q0, qS, i64_w, i32_w]
       rfl
      refine pure_ (i := 2) (N := some 50) (v := ?_) (a' := ?_) #[true, false, true, false, false, false, false, false, false] rfl rfl (any_of HT_.out (by kernel_rfl)) (fun _ _ _ h => h) (Or.inl ⟨by rfl, ?_⟩) ?_ ?_
      rotate_left
      ·intro w'
       go_simp
       with_reducible rfl
      rotate_left
      ·simp only [Act.put, qT, q0, qS, i64_w, i32_w]
       rfl
      refine pure_ (i := 6) (N := some 54) (v := ?_) (a' := ?_) #[true, false, true, false, false, false, true, false, false] rfl rfl (any_of HT_.out (by kernel_rfl)) (fun _ _ _ h => h) (Or.inl ⟨by rfl, ?_⟩) ?_ ?_
      rotate_left
      ·intro w'
       go_simp
       with_reducible rfl
      rotate_left
      ·simp only [Act.put, qT, q0, qS, i64_w, i32_w]
       rfl
      refine take_ (i := 1) (N := some 49) (v := ?_) (a' := ?_) #[true, true, true, false, false, false, true, false, false] rfl rfl (take_ofW HT_.out HW_.out (by kernel_rfl)) (fun _ _ _ h => h) (Or.inl ⟨by rfl, ?_⟩) hHeld ?_ ?_
      rotate_left
      ·rintro w' ⟨s0, s1, s2, s3, s4, s5, s6⟩
       go_simp
       with_reducible rfl
      rotate_left
      ·simp only [Act.put, qT, q0, qS, i64_w, i32_w]
       rfl
      refine pure_ (i := 3) (N := some 51) (v := ?_) (a' := ?_) #[true, true, true, true, false, false, true, false, false] rfl rfl (any_of HT_.out (by kernel_rfl)) (fun _ _ _ h => h) (Or.inl ⟨by rfl, ?_⟩) ?_ ?_
      rotate_left
      ·intro w'
       go_simp
       with_reducible rfl
      rotate_left
      ·simp only [Act.put, qT, q0, qS, i64_w, i32_w]
       rfl
      refine pure_ (i := 4) (N := some 52) (v := ?_) (a' := ?_) #[true, true, true, true, true, false, true, false, false] rfl rfl (any_of HT_.out (by kernel_rfl)) (fun _ _ _ h => h) (Or.inl ⟨by rfl, ?_⟩) ?_ ?_
      rotate_left
      ·intro w'
       go_simp
       with_reducible rfl
      rotate_left
      ·simp only [Act.put, qT, q0, qS, i64_w, i32_w]
       rfl
      refine take_ (i := 5) (N := some 53) (v := ?_) (a' := ?_) #[true, true, true, true, true, true, true, false, false] rfl rfl (take_ofW HT_.out HW_.out (by kernel_rfl)) (fun _ _ _ h => h) (Or.inl ⟨by rfl, ?_⟩) hHeld ?_ ?_
      rotate_left
      ·rintro w' ⟨s0, s1, s2, s3, s4, s5, s6⟩
       go_simp
       with_reducible rfl
      rotate_left
      ·simp only [Act.put, qT, q0, qS, i64_w, i32_w]
       rfl
      refine take_ (i := 7) (N := some 55) (v := ?_) (a' := ?_) #[true, true, true, true, true, true, true, true, false] rfl rfl (take_ofW HT_.out HW_.out (by kernel_rfl)) (fun _ _ _ h => h) (Or.inl ⟨by rfl, ?_⟩) hHeld ?_ ?_
      rotate_left
      ·rintro w' ⟨s0, s1, s2, s3, s4, s5, s6⟩
       go_simp
       with_reducible rfl
      rotate_left
      ·simp only [Act.put, qT, q0, qS, i64_w, i32_w]
       rfl
      refine pure_ (i := 8) (N := some 56) (v := ?_) (a' := ?_) #[true, true, true, true, true, true, true, true, true] rfl rfl (any_of HT_.out (by kernel_rfl)) (fun _ _ _ h => h) (Or.inl ⟨by rfl, ?_⟩) ?_ ?_
      rotate_left
      ·intro w'
       go_simp
       with_reducible rfl
      rotate_left
      ·simp only [Act.put, qT, q0, qS, i64_w, i32_w]
       rfl
      refine done_ (done_of HT_.out (by kernel_rfl)) ?_
      try go_wp2
      go_roundg k2
      case measure => have := HK1.out; have := HK2.out; omega
      case rel => exact ⟨(wrap64 (x7_2 + 1)), (x183000_2), (u183000), sf, H', ⟨by have := HK1.out; have := HK2.out; omega⟩, ⟨by exact HO_183000.out⟩, ⟨bk BK179⟩, ⟨bk BK180⟩, ⟨bk BK181⟩, ⟨bk BK182⟩, ⟨hS⟩⟩
     rw [if_neg c43] at H
     exact absurd H (by simp)
    rw [if_neg c42] at H
    have c42b0 : decide (x7_2 < (l0_0.length : Int)) = false := decide_eq_false c42
    clear c42
    obtain rfl := Option.some.inj H
    have hnb60 := NB179_180.out
    have hnc60 := NB180_179.out
    have hnb61 := NB179_181.out
    have hnc61 := NB181_179.out
    have hnb62 := NB179_182.out
    have hnc62 := NB182_179.out
    have hcz63_0 := bv BK179 0 (.slice A0_0 l0_0.length c0_0)
    have hfz63_0 := bz BK179 0
    have hnb64 := NB182_180.out
    have hnc64 := NB180_182.out
    have hnb65 := NB182_181.out
    have hnc65 := NB181_182.out
    have hcz66_0 := bv BK182 0 (u183000)
    have hfz66_0 := bz BK182 0
    obtain ⟨Ao67, co67, eo67⟩ := Kd.R_slice HO_183000.out
    subst eo67
    have hnb68 := NB181_180.out
    have hnc68 := NB180_181.out
    have hcz69_0 := bv BK181 0 (.slice none 0 0)
    have hfz69_0 := bz BK181 0
    go_wp2
    refine bodyPost_ret (results_cell_row rfl _ _ gb181 30 #[.slice Ao67 x183000_2.length co67] (0, 0) _ rfl (by (with_reducible repeat first | apply aN | apply aD | apply aA); refine blk_put (cs := #[.slice none 0 0]) ?_ 0 _ rfl; exact bk BK181) Try.underlying30 rfl (by kernel_rfl)) rfl ?_
    exact ⟨_, er, by exact Kd.R_mono (Kd.R_far (p := ⟨gb181, 0, none⟩) (Kd.R_types HO_183000.out BK181.out (by decide)) (fun _ hk => hk.2) (.slice Ao67 x183000_2.length co67)) (fun _ hk => trivial), hS⟩
  rw [if_neg c29] at H
  exact absurd H (by simp)

end Go.Proofs.Ytnkldnkolcighaa.XFnExactCutActs
