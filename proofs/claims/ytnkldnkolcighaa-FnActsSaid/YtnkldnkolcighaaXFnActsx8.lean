/- What the functions of a law compute, and that their calls compute it: written by a program of this session (xprint.py), which turns the kit print at a few places. -/
import Derived.Test.YtnkldnkolcighaaXFnActsx0
import Derived.Test.YtnkldnkolcighaaXFnActsx5
namespace Go.Proofs.Ytnkldnkolcighaa.XFnActs
open Go.RowKit Go.Proofs.YtnkldnkolcighaaQ.PrintWords Go.Proofs.YtnkldnkolcighaaQ.PrintLast Go.Proofs.YtnkldnkolcighaaQ.PrintMore
attribute [local go_sem] max2_int min2_int max_two min_two max_three min_three max_four min_four str_geq str_gtr   -- for this text's walks alone
set_option linter.unusedVariables false
set_option linter.unusedSimpArgs false

/-! ### spec_LoseDisk: function 56 -/
mutual
def spec_LoseDisk.l0 : Nat → List Int → Int → List (S67) → List (S67) → Option ((List (S67)) × Bool)
 | 0, _, _, _, _ => none
 | k + 1, x1, x7, x190000, x193000 => if x7 < (x190000.length : Int) then (if 0 ≤ x7 then (if x7 < (x1.length : Int) then (spec_LoseDisk.j1 k x1 x7 (rd x1 x7) x190000 x193000 ((rd_T67 x190000 x7).f0) ((rd_T67 x190000 x7).f1) ((rd_T67 x190000 x7).f2)) else (spec_LoseDisk.j1 k x1 x7 0 x190000 x193000 ((rd_T67 x190000 x7).f0) ((rd_T67 x190000 x7).f1) ((rd_T67 x190000 x7).f2))) else (none)) else (some (x193000, true))
def spec_LoseDisk.j1 : Nat → List Int → Int → Int → List (S67) → List (S67) → ByteArray → ByteArray → Int → Option ((List (S67)) × Bool)
 | 0, _, _, _, _, _, _, _, _ => none
 | k + 1, x1, x7, x9, x190000, x193000, x195000, x195001, x195002 => if x9 > (x195001.size : Int) then (if (x195001.size : Int) < x195002 then (if 0 ≤ x195002 then (if x195002 ≤ (x195001.size : Int) then (if x193000.length < 3518437208883 then (spec_LoseDisk.l0 k x1 (wrap64 (x7 + 1)) x190000 (x193000 ++ [(⟨x195000, x195001.extract 0 (x195002 : Int).toNat, x195002⟩ : S67)])) else (none)) else (none)) else (none)) else (if 0 ≤ (x195001.size : Int) then (if (x195001.size : Int) ≤ (x195001.size : Int) then (if x193000.length < 3518437208883 then (spec_LoseDisk.l0 k x1 (wrap64 (x7 + 1)) x190000 (x193000 ++ [(⟨x195000, x195001.extract 0 ((x195001.size : Int) : Int).toNat, (x195001.size : Int)⟩ : S67)])) else (none)) else (none)) else (none))) else (if x9 < x195002 then (if 0 ≤ x195002 then (if x195002 ≤ (x195001.size : Int) then (if x193000.length < 3518437208883 then (spec_LoseDisk.l0 k x1 (wrap64 (x7 + 1)) x190000 (x193000 ++ [(⟨x195000, x195001.extract 0 (x195002 : Int).toNat, x195002⟩ : S67)])) else (none)) else (none)) else (none)) else (if 0 ≤ x9 then (if x9 ≤ (x195001.size : Int) then (if x193000.length < 3518437208883 then (spec_LoseDisk.l0 k x1 (wrap64 (x7 + 1)) x190000 (x193000 ++ [(⟨x195000, x195001.extract 0 (x9 : Int).toNat, x9⟩ : S67)])) else (none)) else (none)) else (none)))
end
def spec_LoseDisk.f (k : Nat) (l0_0 : List (S67)) (l1 : List Int) : Option ((List (S67)) × Bool) := (spec_DiskOk.f k l0_0).bind fun t191 => (if t191 = true then (spec_LoseDisk.l0 k l1 0 l0_0 ([] : List (S67))) else (some (([] : List (S67)), false)))
theorem Kx.extract_all (b : ByteArray) : b.extract 0 b.size = b := by simp
theorem spec_LoseDisk.mono_l : ∀ k, (∀ y0 y1 y2 y3, LeO (spec_LoseDisk.l0 k y0 y1 y2 y3) (spec_LoseDisk.l0 (k + 1) y0 y1 y2 y3)) ∧ (∀ y0 y1 y2 y3 y4 y5 y6 y7, LeO (spec_LoseDisk.j1 k y0 y1 y2 y3 y4 y5 y6 y7) (spec_LoseDisk.j1 (k + 1) y0 y1 y2 y3 y4 y5 y6 y7))
 | 0 => ⟨fun _ _ _ _ r h => by simp [spec_LoseDisk.l0] at h, fun _ _ _ _ _ _ _ _ r h => by simp [spec_LoseDisk.j1] at h⟩
 | k + 1 => by
  obtain ⟨ih0, ih1⟩ := spec_LoseDisk.mono_l k
  refine ⟨?_, ?_⟩
  ·intro y0 y1 y2 y3
   unfold spec_LoseDisk.l0
   repeat' first
   | (with_reducible exact LeO.refl _)
   | (with_reducible refine LeO.ite ?_ ?_)
   | (with_reducible refine LeO.bind ?_ (fun _ => ?_))
   | exact ih0 _ _ _ _
   | exact ih1 _ _ _ _ _ _ _ _
   | exact spec_DiskOk.mono _ _
   | exact LeO.none _
   | refine LeO.ite ?_ ?_
   | refine LeO.bind ?_ (fun _ => ?_)
  intro y0 y1 y2 y3 y4 y5 y6 y7
  unfold spec_LoseDisk.j1
  repeat' first
  | (with_reducible exact LeO.refl _)
  | (with_reducible refine LeO.ite ?_ ?_)
  | (with_reducible refine LeO.bind ?_ (fun _ => ?_))
  | exact ih0 _ _ _ _
  | exact ih1 _ _ _ _ _ _ _ _
  | exact spec_DiskOk.mono _ _
  | exact LeO.none _
  | refine LeO.ite ?_ ?_
  | refine LeO.bind ?_ (fun _ => ?_)
theorem spec_LoseDisk.mono : ∀ a0 a1 k, LeO (spec_LoseDisk.f k a0 a1) (spec_LoseDisk.f (k + 1) a0 a1) := by
 intro a0 a1 k
 obtain ⟨ih0, ih1⟩ := spec_LoseDisk.mono_l k
 unfold spec_LoseDisk.f
 repeat' first
   | (with_reducible exact LeO.refl _)
   | (with_reducible refine LeO.ite ?_ ?_)
   | (with_reducible refine LeO.bind ?_ (fun _ => ?_))
   | exact ih0 _ _ _ _
   | exact ih1 _ _ _ _ _ _ _ _
   | exact spec_DiskOk.mono _ _
   | exact LeO.none _
   | refine LeO.ite ?_ ?_
   | refine LeO.bind ?_ (fun _ => ?_)
def spec_LoseDisk.T15 : Bool × List (List Nat × List Nat) := (true, [([], []), ([0], [0]), ([], []), ([2], [2]), ([], []), ([4], [4]), ([], []), ([5, 6], [5, 6]), ([], []), ([3, 7, 8], [3, 7, 8]), ([9], [9]), ([1, 10], [1, 10]), ([0, 1, 2, 3, 4, 5, 6, 7, 8, 9, 10, 11], []), ([12, 11, 11, 0, 1, 2, 3, 4, 5, 6, 7, 8, 9, 10, 11], [11, 12])])
def spec_LoseDisk.B15 : List Nat := [0, 1, 0, 4, 0, 16, 0, 112, 0, 508, 1020, 2047, 4095, 8191]
theorem spec_LoseDisk.tab15 : rtab .any (opsOf Try.f56 15) = spec_LoseDisk.T15 := by kernel_rfl
theorem spec_LoseDisk.bits15 : waitsOk spec_LoseDisk.T15.2 spec_LoseDisk.B15 = true := by kernel_rfl
set_option maxHeartbeats 8000000 in
set_option maxRecDepth 100000 in
theorem spec_LoseDisk.calls (k : Nat) (A0_0 : Option Addr) (c0_0 : Nat) (l0_0 : List (S67)) (A1 : Option Addr) (c1 : Nat) (l1 : List Int) (r1 : List (S67)) (r2 : Bool) (w : World) (hr0_0 : Kd.C k67 w A0_0 l0_0.length l0_0) (hc0_0 : l0_0.length ≤ c0_0) (hr1 : Kd.C (Kd.int .i64) w A1 l1.length l1) (hc1 : l1.length ≤ c1) (h : spec_LoseDisk.f k l0_0 l1 = some (r1, r2)) :
  Calls Try.prog 56 #[.agg #[.slice A0_0 l0_0.length c0_0], .slice A1 l1.length c1] w fun e w' => ∃ v0_ : Value, e = .returned (.tuple #[.agg #[v0_], .bool r2]) ∧ Kd.R k67 67 w' w.heap.size (fun _ => True) v0_ r1 ∧ Below w.heap.size w w' := by
 have hu30 := Try.underlying30
 have hu67 := Try.underlying67
 have HR0_0 := AM hr0_0
 have HC0_0 := AM hc0_0
 clear hr0_0 hc0_0
 have HR1 := AM hr1
 have HC1 := AM hc1
 clear hr1 hc1
 have HB := AM (Below.refl w.heap.size w)
 have H : ((spec_DiskOk.f k l0_0).bind fun t191 => (if t191 = true then (spec_LoseDisk.l0 k l1 0 l0_0 ([] : List (S67))) else (some (([] : List (S67)), false)))) = some (r1, r2) := h
 clear h
 replace H := bm H
 obtain ⟨t191, A30, H⟩ := H
 replace H : (if t191 = true then (spec_LoseDisk.l0 k l1 0 l0_0 ([] : List (S67))) else (some (([] : List (S67)), false))) = some (r1, r2) := H
 have A3 := AM A30
 clear A30
 by_cases c4 : t191 = true
 ·subst c4
  have H1 : (spec_LoseDisk.l0 k l1 0 l0_0 ([] : List (S67))) = some (r1, r2) := by rw [if_pos rfl] at H; exact H
  clear H
  have H := H1
  clear H1
  have H' := AM H
  clear H
  go_enter Try.func56, Try.ntmps56
  go_wp2_with (first | ((with_reducible refine gd 2 rfl ?_); refine bx (N := 2) (cs := #[.slice A0_0 l0_0.length c0_0]) (t := 30) ?_; intro gb189 hg w5 hbox hb; have BK189 := AM (hbox); have GW189 := AM (bs hg HB); have GE189 := AM (bs hg HB); replace HB := bq HB hb; clear hb hbox hg) | ((with_reducible refine gd 4 rfl ?_); refine bx (N := 4) (cs := #[.slice none 0 0]) (t := 30) ?_; intro gb190 hg w6 hbox hb; have BK190 := AM (hbox); have GW190 := AM (bt hg hS); have GE190 := AM (bt hg hS); replace HB := AM (below_step (hS) hb); have NB189_190 := AM (nl hg (bk BK189)); have NB190_189 := AM (ng hg (bk BK189)); replace BK189 := bw BK189 hb; clear hb hbox hg; have hnb7 := NB189_190.out; have hnc7 := NB190_189.out; have hcz8_0 := bv BK189 0 (.slice A0_0 l0_0.length c0_0); have hfz8_0 := bz BK189 0) | ((with_reducible refine gc 41 rfl ?_); refine gl 11 Try.func41 #[.agg #[.slice A0_0 l0_0.length c0_0]] ?_; (with_reducible refine (spec_DiskOk.calls k _ _ l0_0 true _ ?side1 ?side2 A3.out).mono ?_); (case side1 => repeat (first | exact (Kd.C_below HR0_0.out HB.out) | (with_reducible first | refine cA ?_ _ | refine cN ?_ _ | refine cD ?_))); (case side2 => exact HC0_0.out); rintro e w9 ⟨rfl, hb⟩; refine ⟨_, rfl, ?_⟩; replace BK189 := bw BK189 hb; replace BK190 := bw BK190 hb; replace HB := AM (below_step (hS) hb); (try clear hb)) | ((with_reducible refine gd 6 rfl ?_); refine bx (N := 6) (cs := #[.slice none 0 0]) (t := 30) ?_; intro gb192 hg w10 hbox hb; have BK192 := AM (hbox); have GW192 := AM (bt hg hS); have GE192 := AM (bt hg hS); replace HB := AM (below_step (hS) hb); have NB189_192 := AM (nl hg (bk BK189)); have NB192_189 := AM (ng hg (bk BK189)); replace BK189 := bw BK189 hb; have NB190_192 := AM (nl hg (bk BK190)); have NB192_190 := AM (ng hg (bk BK190)); replace BK190 := bw BK190 hb; clear hb hbox hg; have hnb11 := NB192_189.out; have hnc11 := NB189_192.out; have hnb12 := NB192_190.out; have hnc12 := NB190_192.out; have hcz13_0 := bv BK192 0 (.slice none 0 0); have hfz13_0 := bz BK192 0))
  go_loopg [7] k (fun kq v7 w' => ∃ (x7_1 : Int) (x193000_1 : List (S67)) (u193000 : Value), v7 = .int .i64 x7_1 ∧ Aside0 (spec_LoseDisk.l0 kq l1 x7_1 l0_0 x193000_1 = some (r1, r2)) ∧ Aside0 (kq ≤ k) ∧ Aside0 (Kd.R k67 67 w' w.heap.size (fun _ => True) u193000 x193000_1) ∧ Aside0 (w'.heap[gb189]? = some (.cells #[(.slice A0_0 l0_0.length c0_0)] 30 (0, 0))) ∧ Aside0 (w'.heap[gb190]? = some (.cells #[(.slice none 0 0)] 30 (0, 0))) ∧ Aside0 (w'.heap[gb192]? = some (.cells #[u193000] 30 (0, 0))) ∧ Aside0 (Below w.heap.size w w'))
  case atStart => exact ⟨(0), (([] : List (S67))), (.slice none 0 0), sf, H', ⟨Nat.le_refl _⟩, ⟨by first | exact Kd.R_nil _ _ _ _ _ | exact Kd.N_nil _ _ _ _ _ | exact Kd.V_nil _ _ _ _ _ | exact Kd.Q_nil _ _ _ _ _ | exact Kd.S_nil _ _ _ _ _⟩, ⟨be⟩, ⟨be⟩, ⟨bp #[.slice none 0 0] 0⟩, ⟨hS⟩⟩
  clear H'
  obtain ⟨x7_1, x193000_1, u193000, rfl, HA, HK1, HO_193000, BK189, BK190, BK192, HB⟩ := hrel
  cases gk with
  | zero => exact absurd HA.out (by simp [spec_LoseDisk.l0])
  | succ k1 =>
   have H := HA.out
   clear HA
   simp only [spec_LoseDisk.l0] at H
   by_cases c14 : x7_1 < (l0_0.length : Int)
   ·rw [if_pos c14] at H
    have c14b0 : decide (x7_1 < (l0_0.length : Int)) = true := decide_eq_true c14
    clear c14
    by_cases c15 : 0 ≤ x7_1
    ·rw [if_pos c15] at H
     have c15b0 : decide (0 ≤ x7_1) = true := decide_eq_true c15
     clear c15
     have HC16 := AM H
     clear H
     have hnb17 := NB189_190.out
     have hnc17 := NB190_189.out
     have hnb18 := NB189_192.out
     have hnc18 := NB192_189.out
     have hcz19_0 := bv BK189 0 (.slice A0_0 l0_0.length c0_0)
     have hfz19_0 := bz BK189 0
     have p193 : 0 ≤ (x7_1 : Int) := od
     have q193 : x7_1 < (l0_0.length : Int) := od
     obtain ⟨ad193, e193, hx193_0, hx193_1, hx193_2⟩ := at_T67 HR0_0.out x7_1 p193 q193
     cases e193
     replace hx193_0 := cl HB hx193_0
     replace hx193_1 := cl HB hx193_1
     replace hx193_2 := cl HB hx193_2
     replace p193 := eq_true p193
     replace q193 := eq_true q193
     go_upto_if 30 with (first | ((with_reducible refine gd 8 rfl ?_); refine bx (N := 8) (cs := #[.string (⟨#[]⟩ : ByteArray), .string (⟨#[]⟩ : ByteArray), .int .i64 0]) (t := 67) ?_; intro gb194 hg w20 hbox hb; replace HO_193000 := AM (Kd.R_below (Kd.R_elderB (by exact HO_193000.out) gb194 (Nat.le_of_eq hg.symm)) hb); have BK194 := AM (hbox); have GW194 := AM (bt hg hS); have GE194 := AM (bt hg hS); replace HB := AM (below_step (hS) hb); have NB189_194 := AM (nl hg (bk BK189)); have NB194_189 := AM (ng hg (bk BK189)); replace BK189 := bw BK189 hb; have NB190_194 := AM (nl hg (bk BK190)); have NB194_190 := AM (ng hg (bk BK190)); replace BK190 := bw BK190 hb; have NB192_194 := AM (nl hg (bk BK192)); have NB194_192 := AM (ng hg (bk BK192)); replace BK192 := bw BK192 hb; clear hb hbox hg; have hnb21 := NB194_189.out; have hnc21 := NB189_194.out; have hnb22 := NB194_190.out; have hnc22 := NB190_194.out; have hnb23 := NB194_192.out; have hnc23 := NB192_194.out; have hcz24_0 := bv BK194 0 (.string (⟨#[]⟩ : ByteArray)); have hcz24_1 := bv BK194 1 (.string (⟨#[]⟩ : ByteArray)); have hcz24_2 := bv BK194 2 (.int .i64 0); have hfz24_0 := bz BK194 0; have hfz24_1 := bz BK194 1; have hfz24_2 := bz BK194 2))
     (try simp only [Act.put, qT, q0, qS])
     go_cut [9] (fun v9 wc => ∃ (kq : Nat) (x9_15 : Int), v9 = .int .i64 x9_15 ∧ Aside0 (spec_LoseDisk.j1 kq l1 x7_1 x9_15 l0_0 x193000_1 ((rd_T67 l0_0 x7_1).f0) ((rd_T67 l0_0 x7_1).f1) ((rd_T67 l0_0 x7_1).f2) = some (r1, r2)) ∧ Aside0 (kq ≤ k1) ∧ Aside0 (Kd.R k67 67 wc w.heap.size (fun k_ => k_ ≠ gb194) u193000 x193000_1) ∧ Aside0 (wc.heap[gb189]? = some (.cells #[(.slice (some ad193) l0_0.length c0_0)] 30 (0, 0))) ∧ Aside0 (wc.heap[gb190]? = some (.cells #[(.slice none 0 0)] 30 (0, 0))) ∧ Aside0 (wc.heap[gb192]? = some (.cells #[u193000] 30 (0, 0))) ∧ Aside0 (wc.heap[gb194]? = some (.cells #[.string ((rd_T67 l0_0 x7_1).f0), .string ((rd_T67 l0_0 x7_1).f1), .int .i64 ((rd_T67 l0_0 x7_1).f2)] 67 (0, 0))) ∧ Aside0 (Below w.heap.size w wc))
     case first =>
      have H := HC16.out
      clear HC16
      by_cases c25 : x7_1 < (l1.length : Int)
      ·rw [if_pos c25] at H
       have c25b0 : decide (x7_1 < (l1.length : Int)) = true := decide_eq_true c25
       clear c25
       (first | rw [c25b0] | (simp only [i64_w, i32_w]; rw [c25b0]) | rw [c25b1] | skip)
       have H' := AM H
       clear H
       have p195 : 0 ≤ (x7_1 : Int) := od
       have q195 : x7_1 < (l1.length : Int) := od
       obtain ⟨ad195, e195, hx195_0⟩ := Kd.at_int HR1.out x7_1 p195 q195
       cases e195
       have hn195_0 : ad195.block ≠ gb194 := Nat.ne_of_lt (Nat.lt_of_lt_of_le (by have := World.block_lt_of_cell? _ _ hx195_0; first | rwa [add_block] at this | exact this) GW194.out)
       have hn195_1 : ad195.block ≠ gb194 := Nat.ne_of_lt (Nat.lt_of_lt_of_le (by have := World.block_lt_of_cell? _ _ hx195_0; first | rwa [add_block] at this | exact this) GW194.out)
       have hn195_2 : ad195.block ≠ gb194 := Nat.ne_of_lt (Nat.lt_of_lt_of_le (by have := World.block_lt_of_cell? _ _ hx195_0; first | rwa [add_block] at this | exact this) GW194.out)
       replace hx195_0 := cl HB hx195_0
       replace hx195_0 := (cell_far (p := ⟨gb194, 0, none⟩) (by first | (rw [add_block]; exact hn195_0) | (show (Addr.add _ _).block ≠ _; rw [add_block]; exact hn195_0) | exact hn195_0) (.string ((rd_T67 l0_0 x7_1).f0))).trans hx195_0
       replace hx195_0 := (cell_far (p := ⟨gb194, 1, none⟩) (by first | (rw [add_block]; exact hn195_1) | (show (Addr.add _ _).block ≠ _; rw [add_block]; exact hn195_1) | exact hn195_1) (.string ((rd_T67 l0_0 x7_1).f1))).trans hx195_0
       replace hx195_0 := (cell_far (p := ⟨gb194, 2, none⟩) (by first | (rw [add_block]; exact hn195_2) | (show (Addr.add _ _).block ≠ _; rw [add_block]; exact hn195_2) | exact hn195_2) (.int .i64 ((rd_T67 l0_0 x7_1).f2))).trans hx195_0
       clear hn195_0
       clear hn195_1
       clear hn195_2
       replace p195 := eq_true p195
       replace q195 := eq_true q195
       go_wp2
       go_meet
       case rel => exact ⟨_, (rd l1 x7_1), sf, H', ⟨by have := HK1.out; first | omega | exact Nat.le_refl _⟩, ⟨by exact Kd.R_mono (Kd.R_far (p := ⟨gb194, 2, none⟩) (Kd.R_far (p := ⟨gb194, 1, none⟩) (Kd.R_far (p := ⟨gb194, 0, none⟩) (Kd.R_mono HO_193000.out (fun k_ hk => (⟨hk, hk.2⟩ : _ ∧ k_ ≠ gb194))) (fun _ hk => hk.2) (.string ((rd_T67 l0_0 x7_1).f0))) (fun _ hk => hk.2) (.string ((rd_T67 l0_0 x7_1).f1))) (fun _ hk => hk.2) (.int .i64 ((rd_T67 l0_0 x7_1).f2))) (fun _ hk => hk.1.2)⟩, ⟨be⟩, ⟨be⟩, ⟨be⟩, ⟨by (with_reducible repeat first | apply aN | apply aD | apply aA); refine blk_put (cs := #[.string ((rd_T67 l0_0 x7_1).f0), .string ((rd_T67 l0_0 x7_1).f1), .int .i64 0]) ?_ 2 _ rfl; (with_reducible repeat first | apply aN | apply aD | apply aA); refine blk_put (cs := #[.string ((rd_T67 l0_0 x7_1).f0), .string (⟨#[]⟩ : ByteArray), .int .i64 0]) ?_ 1 _ rfl; (with_reducible repeat first | apply aN | apply aD | apply aA); refine blk_put (cs := #[.string (⟨#[]⟩ : ByteArray), .string (⟨#[]⟩ : ByteArray), .int .i64 0]) ?_ 0 _ rfl; exact bk BK194⟩, ⟨hS⟩⟩
      rw [if_neg c25] at H
      have c25b0 : decide (x7_1 < (l1.length : Int)) = false := decide_eq_false c25
      clear c25
      (first | rw [c25b0] | (simp only [i64_w, i32_w]; rw [c25b0]) | rw [c25b1] | skip)
      have H' := AM H
      clear H
      go_wp2
      go_meet
      case rel => exact ⟨_, (0), sf, H', ⟨by have := HK1.out; first | omega | exact Nat.le_refl _⟩, ⟨by exact Kd.R_mono (Kd.R_far (p := ⟨gb194, 2, none⟩) (Kd.R_far (p := ⟨gb194, 1, none⟩) (Kd.R_far (p := ⟨gb194, 0, none⟩) (Kd.R_mono HO_193000.out (fun k_ hk => (⟨hk, hk.2⟩ : _ ∧ k_ ≠ gb194))) (fun _ hk => hk.2) (.string ((rd_T67 l0_0 x7_1).f0))) (fun _ hk => hk.2) (.string ((rd_T67 l0_0 x7_1).f1))) (fun _ hk => hk.2) (.int .i64 ((rd_T67 l0_0 x7_1).f2))) (fun _ hk => hk.1.2)⟩, ⟨be⟩, ⟨be⟩, ⟨be⟩, ⟨by (with_reducible repeat first | apply aN | apply aD | apply aA); refine blk_put (cs := #[.string ((rd_T67 l0_0 x7_1).f0), .string ((rd_T67 l0_0 x7_1).f1), .int .i64 0]) ?_ 2 _ rfl; (with_reducible repeat first | apply aN | apply aD | apply aA); refine blk_put (cs := #[.string ((rd_T67 l0_0 x7_1).f0), .string (⟨#[]⟩ : ByteArray), .int .i64 0]) ?_ 1 _ rfl; (with_reducible repeat first | apply aN | apply aD | apply aA); refine blk_put (cs := #[.string (⟨#[]⟩ : ByteArray), .string (⟨#[]⟩ : ByteArray), .int .i64 0]) ?_ 0 _ rfl; exact bk BK194⟩, ⟨hS⟩⟩
     case rest =>
      clear HC16
      obtain ⟨kq, x9_15, rfl, HA, HJ15, HO_193000, BK189, BK190, BK192, BK194, HB⟩ := hcut
      cases kq with
      | zero => exact absurd HA.out (by simp [spec_LoseDisk.j1])
      | succ kj15 =>
       have H := HA.out
       clear HA
       simp only [spec_LoseDisk.j1] at H
       by_cases c26 : x9_15 > (((rd_T67 l0_0 x7_1).f1).size : Int)
       ·rw [if_pos c26] at H
        have c26b0 : decide ((((rd_T67 l0_0 x7_1).f1).size : Int) < x9_15) = true := decide_eq_true c26
        clear c26
        by_cases c27 : (((rd_T67 l0_0 x7_1).f1).size : Int) < ((rd_T67 l0_0 x7_1).f2)
        ·rw [if_pos c27] at H
         have c27b0 : decide ((((rd_T67 l0_0 x7_1).f1).size : Int) < ((rd_T67 l0_0 x7_1).f2)) = true := decide_eq_true c27
         clear c27
         by_cases c28 : 0 ≤ ((rd_T67 l0_0 x7_1).f2)
         ·rw [if_pos c28] at H
          have c28b0 := eq_true c28
          have c28b1 : decide (0 ≤ ((rd_T67 l0_0 x7_1).f2)) = true := decide_eq_true c28
          clear c28
          by_cases c29 : ((rd_T67 l0_0 x7_1).f2) ≤ (((rd_T67 l0_0 x7_1).f1).size : Int)
          ·rw [if_pos c29] at H
           have c29b0 := eq_true c29
           have c29b1 : decide (((rd_T67 l0_0 x7_1).f2) ≤ (((rd_T67 l0_0 x7_1).f1).size : Int)) = true := decide_eq_true c29
           clear c29
           by_cases c30 : x193000_1.length < 3518437208883
           ·rw [if_pos c30] at H
            have LMc30 := AM c30
            clear c30
            obtain ⟨y196, hy196⟩ : ∃ y_ : List (S67), y_ = (x193000_1 ++ [(⟨((rd_T67 l0_0 x7_1).f0), ((rd_T67 l0_0 x7_1).f1).extract 0 (((rd_T67 l0_0 x7_1).f2) : Int).toNat, ((rd_T67 l0_0 x7_1).f2)⟩ : S67)]) := ⟨_, rfl⟩
            replace H : (spec_LoseDisk.l0 kj15 l1 (wrap64 (x7_1 + 1)) l0_0 y196) = some (r1, r2) := by first | (rw [hy196]; with_reducible exact H) | (have H2_ := (Option.bind_some _ _).symm.trans H; rw [hy196]; with_reducible exact H2_) | (have H2_ := (Option.bind_some _ _).symm.trans H; with_reducible exact H2_) | with_reducible exact H | (rw [hy196]; exact H) | exact H
            have Ny196 := AM hy196
            clear hy196
            have H' := AM H
            clear H
            have hnb31 := NB194_189.out
            have hnc31 := NB189_194.out
            have hnb32 := NB194_190.out
            have hnc32 := NB190_194.out
            have hnb33 := NB194_192.out
            have hnc33 := NB192_194.out
            have hcz34_0 := bv BK194 0 (.string ((rd_T67 l0_0 x7_1).f0))
            have hcz34_1 := bv BK194 1 (.string ((rd_T67 l0_0 x7_1).f1))
            have hcz34_2 := bv BK194 2 (.int .i64 ((rd_T67 l0_0 x7_1).f2))
            have hfz34_0 := bz BK194 0
            have hfz34_1 := bz BK194 1
            have hfz34_2 := bz BK194 2
            try go_wp2
            replace HO_193000 := AM (Kd.R_drew HO_193000.out)
            replace BK189 := AM (blk_drew BK189.out)
            replace BK190 := AM (blk_drew BK190.out)
            replace BK192 := AM (blk_drew BK192.out)
            replace BK194 := AM (blk_drew BK194.out)
            replace HB := AM (below_drew1 HB.out)
            refine sr 14 (fun w' => w'.cell? ⟨gb192, 0, none⟩ = some (u193000) ∧ w'.cell? ⟨gb194, 0, none⟩ = some (.string ((rd_T67 l0_0 x7_1).f0)) ∧ w'.cell? ⟨gb194, 1, none⟩ = some (.string ((rd_T67 l0_0 x7_1).f1)) ∧ w'.cell? ⟨gb194, 2, none⟩ = some (.int .i64 ((rd_T67 l0_0 x7_1).f2))) [13] ⟨bc BK192 0, bc BK194 0, bc BK194 1, bc BK194 2⟩ (fun hHeld => ?_); refine with_tabW spec_LoseDisk.tab15 spec_LoseDisk.bits15 (fun HT_ HW_ => ?_)
            generalize wc.drew = w35 at HO_193000 BK189 BK190 BK192 BK194 HB hHeld ⊢
            refine pt 0 49 ?_; refine pt 2 51 ?_; refine pt 4 53 ?_; refine pt 6 55 ?_; refine pt 8 57 ?_; refine tt 1 50 ?_; refine tt 3 52 ?_; refine tt 5 54 ?_; refine pt 7 56 ?_; refine pt 9 58 ?_
            refine ot 10 (some 59) fun K hK => ?_
            refine vl ?_
            refine hK.out _ _ ⟨(blk_cell (blk_alloc BK192.out _) 0).trans rfl, (blk_cell (blk_alloc BK194.out _) 0).trans rfl, (blk_cell (blk_alloc BK194.out _) 1).trans rfl, (blk_cell (blk_alloc BK194.out _) 2).trans rfl⟩ (fun hHeld => ?_)
            clear hK K
            refine nr ?_
            refine ot 11 (some 60) fun K hK => ?_
            refine Kd.R_append_step k67 (w0 := w) w.heap.size (by rfl) (.tmp 50) (.tmp 59) 28 67 (.agg #[(.string ⟨#[]⟩), (.string ⟨#[]⟩), (.int .i64 0)]) 40 rfl Try.underlying28 info67 rfl (by decide) (by omega) u193000 x193000_1 (⟨((rd_T67 l0_0 x7_1).f0), ((rd_T67 l0_0 x7_1).f1).extract 0 (((rd_T67 l0_0 x7_1).f2) : Int).toNat, ((rd_T67 l0_0 x7_1).f2)⟩ : S67) [.string ((rd_T67 l0_0 x7_1).f0), .string (((rd_T67 l0_0 x7_1).f1).extract 0 (((rd_T67 l0_0 x7_1).f2) : Int).toNat), .int .i64 ((rd_T67 l0_0 x7_1).f2)] (fun k_ => k_ ≠ gb194) (fun _ => False) rfl rfl ?aP (fun _ hk => hk.elim) ?aF ?aO ?aB ?aS ?aL ?_
            (case aP => exact k67_mkM _ _ _ (⟨((rd_T67 l0_0 x7_1).f0), ((rd_T67 l0_0 x7_1).f1).extract 0 (((rd_T67 l0_0 x7_1).f2) : Int).toNat, ((rd_T67 l0_0 x7_1).f2)⟩ : S67))
            (case aB => exact (hS))
            (case aF => exact (fun k_ hk => Kd.freshB (g := gb194) (o := .cells #[.string ((rd_T67 l0_0 x7_1).f0), .string ((rd_T67 l0_0 x7_1).f1), .int .i64 ((rd_T67 l0_0 x7_1).f2)] 67 (0, 0)) (bk BK194) k_ hk))
            (case aO => exact (by exact HO_193000.out))
            (case aS => exact (below_size (hS)))
            (case aL => have := LMc30.out; omega)
            intro v197 w36 ho hb hg hat
            rw [← Ny196.out] at ho
            replace BK189 := AM (blk_grown (g := gb189) (o := .cells #[.slice (some ad193) l0_0.length c0_0] 30 (0, 0)) (bk BK189) hg (Kd.R_ne HO_193000.out BK189.out (by decide)))
            replace BK190 := AM (blk_grown (g := gb190) (o := .cells #[.slice none 0 0] 30 (0, 0)) (bk BK190) hg (Kd.R_ne HO_193000.out BK190.out (by decide)))
            replace BK192 := AM (blk_grown (g := gb192) (o := .cells #[u193000] 30 (0, 0)) (bk BK192) hg (Kd.R_ne HO_193000.out BK192.out (by decide)))
            replace BK194 := AM (blk_grown (g := gb194) (o := .cells #[.string ((rd_T67 l0_0 x7_1).f0), .string ((rd_T67 l0_0 x7_1).f1), .int .i64 ((rd_T67 l0_0 x7_1).f2)] 67 (0, 0)) (bk BK194) hg (Kd.R_away HO_193000.out (fun _ hk => hk)))
            replace HB := AM (hb)
            have HO198 := AM (ho)
            clear HO_193000
            clear ho hb hg hat
            obtain ⟨Ao37, co37, eo37⟩ := Kd.R_slice HO198.out
            (first | subst eo37 | (injection eo37 with f1_ f2_ f3_; have f4_ := f1_.symm; have f5_ := f3_.symm; clear f1_ f2_ f3_; subst f4_; subst f5_))
            refine hK.out _ _ ⟨bc BK192 0, bc BK194 0, bc BK194 1, bc BK194 2⟩ (fun hHeld => ?_)
            clear hK K
            refine nr ?_
            refine pt 12 61 ?_
            refine zt 13 none fun K hK => ?_
            have hs38 : w36.cell? ⟨gb192, 0, none⟩ = some (u193000) := bc BK192 0
            have hfs38 := bz BK192 0
            have hns38_0 := NB189_192.out
            have hns38_1 := NB190_192.out
            have hns38_3 := NB194_192.out
            have hms38_0 := NB192_189.out
            have hms38_1 := NB192_190.out
            have hms38_3 := NB192_194.out
            refine sk ?_
            refine hK.out _ _ ?_
            clear hK K
            refine dn ?_
            try go_wp2
            go_roundg kj15
            case measure => have := HK1.out; have := HJ15.out; omega
            case rel => exact ⟨(wrap64 (x7_1 + 1)), (y196), (.slice Ao37 y196.length co37), sf, H', ⟨by have := HK1.out; have := HJ15.out; omega⟩, ⟨by exact Kd.R_mono (Kd.R_far (p := ⟨gb192, 0, none⟩) (Kd.R_types HO198.out BK192.out (by decide)) (fun _ hk => hk.2) (.slice Ao37 y196.length co37)) (fun _ hk => trivial)⟩, ⟨be⟩, ⟨be⟩, ⟨bp #[u193000] 0⟩, ⟨hS⟩⟩
           rw [if_neg c30] at H
           exact absurd H (by simp)
          rw [if_neg c29] at H
          exact absurd H (by simp)
         rw [if_neg c28] at H
         exact absurd H (by simp)
        rw [if_neg c27] at H
        have c27b0 : decide ((((rd_T67 l0_0 x7_1).f1).size : Int) < ((rd_T67 l0_0 x7_1).f2)) = false := decide_eq_false c27
        clear c27
        by_cases c39 : 0 ≤ (((rd_T67 l0_0 x7_1).f1).size : Int)
        ·rw [if_pos c39] at H
         have c39b0 := eq_true c39
         have c39b1 : decide (0 ≤ (((rd_T67 l0_0 x7_1).f1).size : Int)) = true := decide_eq_true c39
         clear c39
         by_cases c40 : (((rd_T67 l0_0 x7_1).f1).size : Int) ≤ (((rd_T67 l0_0 x7_1).f1).size : Int)
         ·rw [if_pos c40] at H
          have c40b0 := eq_true c40
          have c40b1 : decide ((((rd_T67 l0_0 x7_1).f1).size : Int) ≤ (((rd_T67 l0_0 x7_1).f1).size : Int)) = true := decide_eq_true c40
          clear c40
          by_cases c41 : x193000_1.length < 3518437208883
          ·rw [if_pos c41] at H
           have LMc41 := AM c41
           clear c41
           have hEX_ : ((rd_T67 l0_0 x7_1).f1).extract 0 ((((rd_T67 l0_0 x7_1).f1).size : Int) : Int).toNat = ((rd_T67 l0_0 x7_1).f1) := by rw [Int.toNat_natCast, Kx.extract_all]
           rw [hEX_] at H
           clear hEX_
           obtain ⟨y199, hy199⟩ : ∃ y_ : List (S67), y_ = (x193000_1 ++ [(⟨((rd_T67 l0_0 x7_1).f0), ((rd_T67 l0_0 x7_1).f1), (((rd_T67 l0_0 x7_1).f1).size : Int)⟩ : S67)]) := ⟨_, rfl⟩
           replace H : (spec_LoseDisk.l0 kj15 l1 (wrap64 (x7_1 + 1)) l0_0 y199) = some (r1, r2) := by first | (rw [hy199]; with_reducible exact H) | (have H2_ := (Option.bind_some _ _).symm.trans H; rw [hy199]; with_reducible exact H2_) | (have H2_ := (Option.bind_some _ _).symm.trans H; with_reducible exact H2_) | with_reducible exact H | (rw [hy199]; exact H) | exact H
           have Ny199 := AM hy199
           clear hy199
           have H' := AM H
           clear H
           have hnb42 := NB194_189.out
           have hnc42 := NB189_194.out
           have hnb43 := NB194_190.out
           have hnc43 := NB190_194.out
           have hnb44 := NB194_192.out
           have hnc44 := NB192_194.out
           have hcz45_0 := bv BK194 0 (.string ((rd_T67 l0_0 x7_1).f0))
           have hcz45_1 := bv BK194 1 (.string ((rd_T67 l0_0 x7_1).f1))
           have hcz45_2 := bv BK194 2 (.int .i64 ((rd_T67 l0_0 x7_1).f2))
           have hfz45_0 := bz BK194 0
           have hfz45_1 := bz BK194 1
           have hfz45_2 := bz BK194 2
           try go_wp2
           replace HO_193000 := AM (Kd.R_drew HO_193000.out)
           replace BK189 := AM (blk_drew BK189.out)
           replace BK190 := AM (blk_drew BK190.out)
           replace BK192 := AM (blk_drew BK192.out)
           replace BK194 := AM (blk_drew BK194.out)
           replace HB := AM (below_drew1 HB.out)
           refine sr 14 (fun w' => w'.cell? ⟨gb192, 0, none⟩ = some (u193000) ∧ w'.cell? ⟨gb194, 0, none⟩ = some (.string ((rd_T67 l0_0 x7_1).f0)) ∧ w'.cell? ⟨gb194, 1, none⟩ = some (.string ((rd_T67 l0_0 x7_1).f1)) ∧ w'.cell? ⟨gb194, 2, none⟩ = some (.int .i64 ((rd_T67 l0_0 x7_1).f2))) [13] ⟨bc BK192 0, bc BK194 0, bc BK194 1, bc BK194 2⟩ (fun hHeld => ?_); refine with_tabW spec_LoseDisk.tab15 spec_LoseDisk.bits15 (fun HT_ HW_ => ?_)
           generalize wc.drew = w46 at HO_193000 BK189 BK190 BK192 BK194 HB hHeld ⊢
           refine pt 0 49 ?_; refine pt 2 51 ?_; refine pt 4 53 ?_; refine pt 6 55 ?_; refine pt 8 57 ?_; refine tt 1 50 ?_; refine tt 3 52 ?_; refine tt 5 54 ?_; refine pt 7 56 ?_; refine pt 9 58 ?_
           refine ot 10 (some 59) fun K hK => ?_
           refine vl ?_
           refine hK.out _ _ ⟨(blk_cell (blk_alloc BK192.out _) 0).trans rfl, (blk_cell (blk_alloc BK194.out _) 0).trans rfl, (blk_cell (blk_alloc BK194.out _) 1).trans rfl, (blk_cell (blk_alloc BK194.out _) 2).trans rfl⟩ (fun hHeld => ?_)
           clear hK K
           refine nr ?_
           refine ot 11 (some 60) fun K hK => ?_
           refine Kd.R_append_step k67 (w0 := w) w.heap.size (by rfl) (.tmp 50) (.tmp 59) 28 67 (.agg #[(.string ⟨#[]⟩), (.string ⟨#[]⟩), (.int .i64 0)]) 40 rfl Try.underlying28 info67 rfl (by decide) (by omega) u193000 x193000_1 (⟨((rd_T67 l0_0 x7_1).f0), ((rd_T67 l0_0 x7_1).f1), (((rd_T67 l0_0 x7_1).f1).size : Int)⟩ : S67) [.string ((rd_T67 l0_0 x7_1).f0), .string (((rd_T67 l0_0 x7_1).f1)), .int .i64 (((rd_T67 l0_0 x7_1).f1).size : Int)] (fun k_ => k_ ≠ gb194) (fun _ => False) rfl rfl ?aP (fun _ hk => hk.elim) ?aF ?aO ?aB ?aS ?aL ?_
           (case aP => exact k67_mkM _ _ _ (⟨((rd_T67 l0_0 x7_1).f0), ((rd_T67 l0_0 x7_1).f1), (((rd_T67 l0_0 x7_1).f1).size : Int)⟩ : S67))
           (case aB => exact (hS))
           (case aF => exact (fun k_ hk => Kd.freshB (g := gb194) (o := .cells #[.string ((rd_T67 l0_0 x7_1).f0), .string ((rd_T67 l0_0 x7_1).f1), .int .i64 ((rd_T67 l0_0 x7_1).f2)] 67 (0, 0)) (bk BK194) k_ hk))
           (case aO => exact (by exact HO_193000.out))
           (case aS => exact (below_size (hS)))
           (case aL => have := LMc41.out; omega)
           intro v200 w47 ho hb hg hat
           rw [← Ny199.out] at ho
           replace BK189 := AM (blk_grown (g := gb189) (o := .cells #[.slice (some ad193) l0_0.length c0_0] 30 (0, 0)) (bk BK189) hg (Kd.R_ne HO_193000.out BK189.out (by decide)))
           replace BK190 := AM (blk_grown (g := gb190) (o := .cells #[.slice none 0 0] 30 (0, 0)) (bk BK190) hg (Kd.R_ne HO_193000.out BK190.out (by decide)))
           replace BK192 := AM (blk_grown (g := gb192) (o := .cells #[u193000] 30 (0, 0)) (bk BK192) hg (Kd.R_ne HO_193000.out BK192.out (by decide)))
           replace BK194 := AM (blk_grown (g := gb194) (o := .cells #[.string ((rd_T67 l0_0 x7_1).f0), .string ((rd_T67 l0_0 x7_1).f1), .int .i64 ((rd_T67 l0_0 x7_1).f2)] 67 (0, 0)) (bk BK194) hg (Kd.R_away HO_193000.out (fun _ hk => hk)))
           replace HB := AM (hb)
           have HO201 := AM (ho)
           clear HO_193000
           clear ho hb hg hat
           obtain ⟨Ao48, co48, eo48⟩ := Kd.R_slice HO201.out
           (first | subst eo48 | (injection eo48 with f1_ f2_ f3_; have f4_ := f1_.symm; have f5_ := f3_.symm; clear f1_ f2_ f3_; subst f4_; subst f5_))
           refine hK.out _ _ ⟨bc BK192 0, bc BK194 0, bc BK194 1, bc BK194 2⟩ (fun hHeld => ?_)
           clear hK K
           refine nr ?_
           refine pt 12 61 ?_
           refine zt 13 none fun K hK => ?_
           have hs49 : w47.cell? ⟨gb192, 0, none⟩ = some (u193000) := bc BK192 0
           have hfs49 := bz BK192 0
           have hns49_0 := NB189_192.out
           have hns49_1 := NB190_192.out
           have hns49_3 := NB194_192.out
           have hms49_0 := NB192_189.out
           have hms49_1 := NB192_190.out
           have hms49_3 := NB192_194.out
           refine sk ?_
           refine hK.out _ _ ?_
           clear hK K
           refine dn ?_
           try go_wp2
           go_roundg kj15
           case measure => have := HK1.out; have := HJ15.out; omega
           case rel => exact ⟨(wrap64 (x7_1 + 1)), (y199), (.slice Ao48 y199.length co48), sf, H', ⟨by have := HK1.out; have := HJ15.out; omega⟩, ⟨by exact Kd.R_mono (Kd.R_far (p := ⟨gb192, 0, none⟩) (Kd.R_types HO201.out BK192.out (by decide)) (fun _ hk => hk.2) (.slice Ao48 y199.length co48)) (fun _ hk => trivial)⟩, ⟨be⟩, ⟨be⟩, ⟨bp #[u193000] 0⟩, ⟨hS⟩⟩
          rw [if_neg c41] at H
          exact absurd H (by simp)
         rw [if_neg c40] at H
         exact absurd H (by simp)
        rw [if_neg c39] at H
        exact absurd H (by simp)
       rw [if_neg c26] at H
       have c26b0 : decide ((((rd_T67 l0_0 x7_1).f1).size : Int) < x9_15) = false := decide_eq_false c26
       clear c26
       by_cases c50 : x9_15 < ((rd_T67 l0_0 x7_1).f2)
       ·rw [if_pos c50] at H
        have c50b0 : decide (x9_15 < ((rd_T67 l0_0 x7_1).f2)) = true := decide_eq_true c50
        clear c50
        by_cases c51 : 0 ≤ ((rd_T67 l0_0 x7_1).f2)
        ·rw [if_pos c51] at H
         have c51b0 := eq_true c51
         have c51b1 : decide (0 ≤ ((rd_T67 l0_0 x7_1).f2)) = true := decide_eq_true c51
         clear c51
         by_cases c52 : ((rd_T67 l0_0 x7_1).f2) ≤ (((rd_T67 l0_0 x7_1).f1).size : Int)
         ·rw [if_pos c52] at H
          have c52b0 := eq_true c52
          have c52b1 : decide (((rd_T67 l0_0 x7_1).f2) ≤ (((rd_T67 l0_0 x7_1).f1).size : Int)) = true := decide_eq_true c52
          clear c52
          by_cases c53 : x193000_1.length < 3518437208883
          ·rw [if_pos c53] at H
           have LMc53 := AM c53
           clear c53
           obtain ⟨y202, hy202⟩ : ∃ y_ : List (S67), y_ = (x193000_1 ++ [(⟨((rd_T67 l0_0 x7_1).f0), ((rd_T67 l0_0 x7_1).f1).extract 0 (((rd_T67 l0_0 x7_1).f2) : Int).toNat, ((rd_T67 l0_0 x7_1).f2)⟩ : S67)]) := ⟨_, rfl⟩
           replace H : (spec_LoseDisk.l0 kj15 l1 (wrap64 (x7_1 + 1)) l0_0 y202) = some (r1, r2) := by first | (rw [hy202]; with_reducible exact H) | (have H2_ := (Option.bind_some _ _).symm.trans H; rw [hy202]; with_reducible exact H2_) | (have H2_ := (Option.bind_some _ _).symm.trans H; with_reducible exact H2_) | with_reducible exact H | (rw [hy202]; exact H) | exact H
           have Ny202 := AM hy202
           clear hy202
           have H' := AM H
           clear H
           have hnb54 := NB194_189.out
           have hnc54 := NB189_194.out
           have hnb55 := NB194_190.out
           have hnc55 := NB190_194.out
           have hnb56 := NB194_192.out
           have hnc56 := NB192_194.out
           have hcz57_0 := bv BK194 0 (.string ((rd_T67 l0_0 x7_1).f0))
           have hcz57_1 := bv BK194 1 (.string ((rd_T67 l0_0 x7_1).f1))
           have hcz57_2 := bv BK194 2 (.int .i64 ((rd_T67 l0_0 x7_1).f2))
           have hfz57_0 := bz BK194 0
           have hfz57_1 := bz BK194 1
           have hfz57_2 := bz BK194 2
           try go_wp2
           replace HO_193000 := AM (Kd.R_drew HO_193000.out)
           replace BK189 := AM (blk_drew BK189.out)
           replace BK190 := AM (blk_drew BK190.out)
           replace BK192 := AM (blk_drew BK192.out)
           replace BK194 := AM (blk_drew BK194.out)
           replace HB := AM (below_drew1 HB.out)
           refine sr 14 (fun w' => w'.cell? ⟨gb192, 0, none⟩ = some (u193000) ∧ w'.cell? ⟨gb194, 0, none⟩ = some (.string ((rd_T67 l0_0 x7_1).f0)) ∧ w'.cell? ⟨gb194, 1, none⟩ = some (.string ((rd_T67 l0_0 x7_1).f1)) ∧ w'.cell? ⟨gb194, 2, none⟩ = some (.int .i64 ((rd_T67 l0_0 x7_1).f2))) [13] ⟨bc BK192 0, bc BK194 0, bc BK194 1, bc BK194 2⟩ (fun hHeld => ?_); refine with_tabW spec_LoseDisk.tab15 spec_LoseDisk.bits15 (fun HT_ HW_ => ?_)
           generalize wc.drew = w58 at HO_193000 BK189 BK190 BK192 BK194 HB hHeld ⊢
           refine pt 0 49 ?_; refine pt 2 51 ?_; refine pt 4 53 ?_; refine pt 6 55 ?_; refine pt 8 57 ?_; refine tt 1 50 ?_; refine tt 3 52 ?_; refine tt 5 54 ?_; refine pt 7 56 ?_; refine pt 9 58 ?_
           refine ot 10 (some 59) fun K hK => ?_
           refine vl ?_
           refine hK.out _ _ ⟨(blk_cell (blk_alloc BK192.out _) 0).trans rfl, (blk_cell (blk_alloc BK194.out _) 0).trans rfl, (blk_cell (blk_alloc BK194.out _) 1).trans rfl, (blk_cell (blk_alloc BK194.out _) 2).trans rfl⟩ (fun hHeld => ?_)
           clear hK K
           refine nr ?_
           refine ot 11 (some 60) fun K hK => ?_
           refine Kd.R_append_step k67 (w0 := w) w.heap.size (by rfl) (.tmp 50) (.tmp 59) 28 67 (.agg #[(.string ⟨#[]⟩), (.string ⟨#[]⟩), (.int .i64 0)]) 40 rfl Try.underlying28 info67 rfl (by decide) (by omega) u193000 x193000_1 (⟨((rd_T67 l0_0 x7_1).f0), ((rd_T67 l0_0 x7_1).f1).extract 0 (((rd_T67 l0_0 x7_1).f2) : Int).toNat, ((rd_T67 l0_0 x7_1).f2)⟩ : S67) [.string ((rd_T67 l0_0 x7_1).f0), .string (((rd_T67 l0_0 x7_1).f1).extract 0 (((rd_T67 l0_0 x7_1).f2) : Int).toNat), .int .i64 ((rd_T67 l0_0 x7_1).f2)] (fun k_ => k_ ≠ gb194) (fun _ => False) rfl rfl ?aP (fun _ hk => hk.elim) ?aF ?aO ?aB ?aS ?aL ?_
           (case aP => exact k67_mkM _ _ _ (⟨((rd_T67 l0_0 x7_1).f0), ((rd_T67 l0_0 x7_1).f1).extract 0 (((rd_T67 l0_0 x7_1).f2) : Int).toNat, ((rd_T67 l0_0 x7_1).f2)⟩ : S67))
           (case aB => exact (hS))
           (case aF => exact (fun k_ hk => Kd.freshB (g := gb194) (o := .cells #[.string ((rd_T67 l0_0 x7_1).f0), .string ((rd_T67 l0_0 x7_1).f1), .int .i64 ((rd_T67 l0_0 x7_1).f2)] 67 (0, 0)) (bk BK194) k_ hk))
           (case aO => exact (by exact HO_193000.out))
           (case aS => exact (below_size (hS)))
           (case aL => have := LMc53.out; omega)
           intro v203 w59 ho hb hg hat
           rw [← Ny202.out] at ho
           replace BK189 := AM (blk_grown (g := gb189) (o := .cells #[.slice (some ad193) l0_0.length c0_0] 30 (0, 0)) (bk BK189) hg (Kd.R_ne HO_193000.out BK189.out (by decide)))
           replace BK190 := AM (blk_grown (g := gb190) (o := .cells #[.slice none 0 0] 30 (0, 0)) (bk BK190) hg (Kd.R_ne HO_193000.out BK190.out (by decide)))
           replace BK192 := AM (blk_grown (g := gb192) (o := .cells #[u193000] 30 (0, 0)) (bk BK192) hg (Kd.R_ne HO_193000.out BK192.out (by decide)))
           replace BK194 := AM (blk_grown (g := gb194) (o := .cells #[.string ((rd_T67 l0_0 x7_1).f0), .string ((rd_T67 l0_0 x7_1).f1), .int .i64 ((rd_T67 l0_0 x7_1).f2)] 67 (0, 0)) (bk BK194) hg (Kd.R_away HO_193000.out (fun _ hk => hk)))
           replace HB := AM (hb)
           have HO204 := AM (ho)
           clear HO_193000
           clear ho hb hg hat
           obtain ⟨Ao60, co60, eo60⟩ := Kd.R_slice HO204.out
           (first | subst eo60 | (injection eo60 with f1_ f2_ f3_; have f4_ := f1_.symm; have f5_ := f3_.symm; clear f1_ f2_ f3_; subst f4_; subst f5_))
           refine hK.out _ _ ⟨bc BK192 0, bc BK194 0, bc BK194 1, bc BK194 2⟩ (fun hHeld => ?_)
           clear hK K
           refine nr ?_
           refine pt 12 61 ?_
           refine zt 13 none fun K hK => ?_
           have hs61 : w59.cell? ⟨gb192, 0, none⟩ = some (u193000) := bc BK192 0
           have hfs61 := bz BK192 0
           have hns61_0 := NB189_192.out
           have hns61_1 := NB190_192.out
           have hns61_3 := NB194_192.out
           have hms61_0 := NB192_189.out
           have hms61_1 := NB192_190.out
           have hms61_3 := NB192_194.out
           refine sk ?_
           refine hK.out _ _ ?_
           clear hK K
           refine dn ?_
           try go_wp2
           go_roundg kj15
           case measure => have := HK1.out; have := HJ15.out; omega
           case rel => exact ⟨(wrap64 (x7_1 + 1)), (y202), (.slice Ao60 y202.length co60), sf, H', ⟨by have := HK1.out; have := HJ15.out; omega⟩, ⟨by exact Kd.R_mono (Kd.R_far (p := ⟨gb192, 0, none⟩) (Kd.R_types HO204.out BK192.out (by decide)) (fun _ hk => hk.2) (.slice Ao60 y202.length co60)) (fun _ hk => trivial)⟩, ⟨be⟩, ⟨be⟩, ⟨bp #[u193000] 0⟩, ⟨hS⟩⟩
          rw [if_neg c53] at H
          exact absurd H (by simp)
         rw [if_neg c52] at H
         exact absurd H (by simp)
        rw [if_neg c51] at H
        exact absurd H (by simp)
       rw [if_neg c50] at H
       have c50b0 : decide (x9_15 < ((rd_T67 l0_0 x7_1).f2)) = false := decide_eq_false c50
       clear c50
       by_cases c62 : 0 ≤ x9_15
       ·rw [if_pos c62] at H
        have c62b0 := eq_true c62
        have c62b1 : decide (0 ≤ x9_15) = true := decide_eq_true c62
        clear c62
        by_cases c63 : x9_15 ≤ (((rd_T67 l0_0 x7_1).f1).size : Int)
        ·rw [if_pos c63] at H
         have c63b0 := eq_true c63
         have c63b1 : decide (x9_15 ≤ (((rd_T67 l0_0 x7_1).f1).size : Int)) = true := decide_eq_true c63
         clear c63
         by_cases c64 : x193000_1.length < 3518437208883
         ·rw [if_pos c64] at H
          have LMc64 := AM c64
          clear c64
          obtain ⟨y205, hy205⟩ : ∃ y_ : List (S67), y_ = (x193000_1 ++ [(⟨((rd_T67 l0_0 x7_1).f0), ((rd_T67 l0_0 x7_1).f1).extract 0 (x9_15 : Int).toNat, x9_15⟩ : S67)]) := ⟨_, rfl⟩
          replace H : (spec_LoseDisk.l0 kj15 l1 (wrap64 (x7_1 + 1)) l0_0 y205) = some (r1, r2) := by first | (rw [hy205]; with_reducible exact H) | (have H2_ := (Option.bind_some _ _).symm.trans H; rw [hy205]; with_reducible exact H2_) | (have H2_ := (Option.bind_some _ _).symm.trans H; with_reducible exact H2_) | with_reducible exact H | (rw [hy205]; exact H) | exact H
          have Ny205 := AM hy205
          clear hy205
          have H' := AM H
          clear H
          have hnb65 := NB194_189.out
          have hnc65 := NB189_194.out
          have hnb66 := NB194_190.out
          have hnc66 := NB190_194.out
          have hnb67 := NB194_192.out
          have hnc67 := NB192_194.out
          have hcz68_0 := bv BK194 0 (.string ((rd_T67 l0_0 x7_1).f0))
          have hcz68_1 := bv BK194 1 (.string ((rd_T67 l0_0 x7_1).f1))
          have hcz68_2 := bv BK194 2 (.int .i64 ((rd_T67 l0_0 x7_1).f2))
          have hfz68_0 := bz BK194 0
          have hfz68_1 := bz BK194 1
          have hfz68_2 := bz BK194 2
          try go_wp2
          replace HO_193000 := AM (Kd.R_drew HO_193000.out)
          replace BK189 := AM (blk_drew BK189.out)
          replace BK190 := AM (blk_drew BK190.out)
          replace BK192 := AM (blk_drew BK192.out)
          replace BK194 := AM (blk_drew BK194.out)
          replace HB := AM (below_drew1 HB.out)
          refine sr 14 (fun w' => w'.cell? ⟨gb192, 0, none⟩ = some (u193000) ∧ w'.cell? ⟨gb194, 0, none⟩ = some (.string ((rd_T67 l0_0 x7_1).f0)) ∧ w'.cell? ⟨gb194, 1, none⟩ = some (.string ((rd_T67 l0_0 x7_1).f1)) ∧ w'.cell? ⟨gb194, 2, none⟩ = some (.int .i64 ((rd_T67 l0_0 x7_1).f2))) [13] ⟨bc BK192 0, bc BK194 0, bc BK194 1, bc BK194 2⟩ (fun hHeld => ?_); refine with_tabW spec_LoseDisk.tab15 spec_LoseDisk.bits15 (fun HT_ HW_ => ?_)
          generalize wc.drew = w69 at HO_193000 BK189 BK190 BK192 BK194 HB hHeld ⊢
          refine pt 0 49 ?_; refine pt 2 51 ?_; refine pt 4 53 ?_; refine pt 6 55 ?_; refine pt 8 57 ?_; refine tt 1 50 ?_; refine tt 3 52 ?_; refine tt 5 54 ?_; refine pt 7 56 ?_; refine pt 9 58 ?_
          refine ot 10 (some 59) fun K hK => ?_
          refine vl ?_
          refine hK.out _ _ ⟨(blk_cell (blk_alloc BK192.out _) 0).trans rfl, (blk_cell (blk_alloc BK194.out _) 0).trans rfl, (blk_cell (blk_alloc BK194.out _) 1).trans rfl, (blk_cell (blk_alloc BK194.out _) 2).trans rfl⟩ (fun hHeld => ?_)
          clear hK K
          refine nr ?_
          refine ot 11 (some 60) fun K hK => ?_
          refine Kd.R_append_step k67 (w0 := w) w.heap.size (by rfl) (.tmp 50) (.tmp 59) 28 67 (.agg #[(.string ⟨#[]⟩), (.string ⟨#[]⟩), (.int .i64 0)]) 40 rfl Try.underlying28 info67 rfl (by decide) (by omega) u193000 x193000_1 (⟨((rd_T67 l0_0 x7_1).f0), ((rd_T67 l0_0 x7_1).f1).extract 0 (x9_15 : Int).toNat, x9_15⟩ : S67) [.string ((rd_T67 l0_0 x7_1).f0), .string (((rd_T67 l0_0 x7_1).f1).extract 0 (x9_15 : Int).toNat), .int .i64 x9_15] (fun k_ => k_ ≠ gb194) (fun _ => False) rfl rfl ?aP (fun _ hk => hk.elim) ?aF ?aO ?aB ?aS ?aL ?_
          (case aP => exact k67_mkM _ _ _ (⟨((rd_T67 l0_0 x7_1).f0), ((rd_T67 l0_0 x7_1).f1).extract 0 (x9_15 : Int).toNat, x9_15⟩ : S67))
          (case aB => exact (hS))
          (case aF => exact (fun k_ hk => Kd.freshB (g := gb194) (o := .cells #[.string ((rd_T67 l0_0 x7_1).f0), .string ((rd_T67 l0_0 x7_1).f1), .int .i64 ((rd_T67 l0_0 x7_1).f2)] 67 (0, 0)) (bk BK194) k_ hk))
          (case aO => exact (by exact HO_193000.out))
          (case aS => exact (below_size (hS)))
          (case aL => have := LMc64.out; omega)
          intro v206 w70 ho hb hg hat
          rw [← Ny205.out] at ho
          replace BK189 := AM (blk_grown (g := gb189) (o := .cells #[.slice (some ad193) l0_0.length c0_0] 30 (0, 0)) (bk BK189) hg (Kd.R_ne HO_193000.out BK189.out (by decide)))
          replace BK190 := AM (blk_grown (g := gb190) (o := .cells #[.slice none 0 0] 30 (0, 0)) (bk BK190) hg (Kd.R_ne HO_193000.out BK190.out (by decide)))
          replace BK192 := AM (blk_grown (g := gb192) (o := .cells #[u193000] 30 (0, 0)) (bk BK192) hg (Kd.R_ne HO_193000.out BK192.out (by decide)))
          replace BK194 := AM (blk_grown (g := gb194) (o := .cells #[.string ((rd_T67 l0_0 x7_1).f0), .string ((rd_T67 l0_0 x7_1).f1), .int .i64 ((rd_T67 l0_0 x7_1).f2)] 67 (0, 0)) (bk BK194) hg (Kd.R_away HO_193000.out (fun _ hk => hk)))
          replace HB := AM (hb)
          have HO207 := AM (ho)
          clear HO_193000
          clear ho hb hg hat
          obtain ⟨Ao71, co71, eo71⟩ := Kd.R_slice HO207.out
          (first | subst eo71 | (injection eo71 with f1_ f2_ f3_; have f4_ := f1_.symm; have f5_ := f3_.symm; clear f1_ f2_ f3_; subst f4_; subst f5_))
          refine hK.out _ _ ⟨bc BK192 0, bc BK194 0, bc BK194 1, bc BK194 2⟩ (fun hHeld => ?_)
          clear hK K
          refine nr ?_
          refine pt 12 61 ?_
          refine zt 13 none fun K hK => ?_
          have hs72 : w70.cell? ⟨gb192, 0, none⟩ = some (u193000) := bc BK192 0
          have hfs72 := bz BK192 0
          have hns72_0 := NB189_192.out
          have hns72_1 := NB190_192.out
          have hns72_3 := NB194_192.out
          have hms72_0 := NB192_189.out
          have hms72_1 := NB192_190.out
          have hms72_3 := NB192_194.out
          refine sk ?_
          refine hK.out _ _ ?_
          clear hK K
          refine dn ?_
          try go_wp2
          go_roundg kj15
          case measure => have := HK1.out; have := HJ15.out; omega
          case rel => exact ⟨(wrap64 (x7_1 + 1)), (y205), (.slice Ao71 y205.length co71), sf, H', ⟨by have := HK1.out; have := HJ15.out; omega⟩, ⟨by exact Kd.R_mono (Kd.R_far (p := ⟨gb192, 0, none⟩) (Kd.R_types HO207.out BK192.out (by decide)) (fun _ hk => hk.2) (.slice Ao71 y205.length co71)) (fun _ hk => trivial)⟩, ⟨be⟩, ⟨be⟩, ⟨bp #[u193000] 0⟩, ⟨hS⟩⟩
         rw [if_neg c64] at H
         exact absurd H (by simp)
        rw [if_neg c63] at H
        exact absurd H (by simp)
       rw [if_neg c62] at H
       exact absurd H (by simp)
    rw [if_neg c15] at H
    exact absurd H (by simp)
   rw [if_neg c14] at H
   have c14b0 : decide (x7_1 < (l0_0.length : Int)) = false := decide_eq_false c14
   clear c14
   simp only [Option.some.injEq, Prod.mk.injEq] at H
   obtain ⟨rfl, rfl⟩ := H
   have hnb73 := NB189_190.out
   have hnc73 := NB190_189.out
   have hnb74 := NB189_192.out
   have hnc74 := NB192_189.out
   have hcz75_0 := bv BK189 0 (.slice A0_0 l0_0.length c0_0)
   have hfz75_0 := bz BK189 0
   have hnb76 := NB192_190.out
   have hnc76 := NB190_192.out
   have hcz77_0 := bv BK192 0 (u193000)
   have hfz77_0 := bz BK192 0
   obtain ⟨Ao78, co78, eo78⟩ := Kd.R_slice HO_193000.out
   subst eo78
   have hcz79_0 := bv BK190 0 (.slice none 0 0)
   have hfz79_0 := bz BK190 0
   go_wp2
   refine bodyPost_ret (results_ct rfl _ _ gb190 30 #[.slice Ao78 x193000_1.length co78] (0, 0) _ rfl (bp #[.slice none 0 0] 0) Try.underlying30 rfl (by kernel_rfl)) rfl ?_
   exact ⟨_, er, by exact Kd.R_mono (Kd.R_far (p := ⟨gb190, 0, none⟩) (Kd.R_types HO_193000.out BK190.out (by decide)) (fun _ hk => hk.2) (.slice Ao78 x193000_1.length co78)) (fun _ hk => trivial), hS⟩
 replace c4 := Bool.eq_false_iff.mpr c4
 subst c4
 have H1 : (some (([] : List (S67)), false)) = some (r1, r2) := by rw [if_neg (show ¬ (false = true) by decide)] at H; exact H
 clear H
 have H := H1
 clear H1
 simp only [Option.some.injEq, Prod.mk.injEq] at H
 obtain ⟨rfl, rfl⟩ := H
 go_enter Try.func56, Try.ntmps56
 go_wp2_with (first | ((with_reducible refine gd 2 rfl ?_); refine bx (N := 2) (cs := #[.slice A0_0 l0_0.length c0_0]) (t := 30) ?_; intro gb189 hg w80 hbox hb; have BK189 := AM (hbox); have GW189 := AM (bs hg HB); have GE189 := AM (bs hg HB); replace HB := bq HB hb; clear hb hbox hg) | ((with_reducible refine gd 4 rfl ?_); refine bx (N := 4) (cs := #[.slice none 0 0]) (t := 30) ?_; intro gb190 hg w81 hbox hb; have BK190 := AM (hbox); have GW190 := AM (bt hg hS); have GE190 := AM (bt hg hS); replace HB := AM (below_step (hS) hb); have NB189_190 := AM (nl hg (bk BK189)); have NB190_189 := AM (ng hg (bk BK189)); replace BK189 := bw BK189 hb; clear hb hbox hg; have hnb82 := NB189_190.out; have hnc82 := NB190_189.out; have hcz83_0 := bv BK189 0 (.slice A0_0 l0_0.length c0_0); have hfz83_0 := bz BK189 0) | ((with_reducible refine gc 41 rfl ?_); refine gl 11 Try.func41 #[.agg #[.slice A0_0 l0_0.length c0_0]] ?_; (with_reducible refine (spec_DiskOk.calls k _ _ l0_0 false _ ?side1 ?side2 A3.out).mono ?_); (case side1 => repeat (first | exact (Kd.C_below HR0_0.out HB.out) | (with_reducible first | refine cA ?_ _ | refine cN ?_ _ | refine cD ?_))); (case side2 => exact HC0_0.out); rintro e w84 ⟨rfl, hb⟩; refine ⟨_, rfl, ?_⟩; replace BK189 := bw BK189 hb; replace BK190 := bw BK190 hb; replace HB := AM (below_step (hS) hb); (try clear hb); have hcz85_0 := bv BK190 0 (.slice none 0 0); have hfz85_0 := bz BK190 0))
 refine bodyPost_ret (results_ct rfl _ _ gb190 30 #[.slice none 0 0] (0, 0) _ rfl (bp #[.slice none 0 0] 0) Try.underlying30 rfl (by kernel_rfl)) rfl ?_
 exact ⟨_, er, by first | exact Kd.R_nil _ _ _ _ _ | exact Kd.N_nil _ _ _ _ _ | exact Kd.V_nil _ _ _ _ _ | exact Kd.Q_nil _ _ _ _ _ | exact Kd.S_nil _ _ _ _ _, hS⟩

end Go.Proofs.Ytnkldnkolcighaa.XFnActs
