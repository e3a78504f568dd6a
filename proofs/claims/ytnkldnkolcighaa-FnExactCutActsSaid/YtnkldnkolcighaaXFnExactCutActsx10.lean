/- What the functions of a law compute, and that their calls compute it: written by a program of this session (xprint.py), which turns the kit print at a few places. -/
import Derived.Test.YtnkldnkolcighaaXFnExactCutActsx0
import Derived.Test.YtnkldnkolcighaaXFnExactCutActsx5
namespace Go.Proofs.Ytnkldnkolcighaa.XFnExactCutActs
open Go.RowKit Go.Proofs.YtnkldnkolcighaaT.PrintWords Go.Proofs.YtnkldnkolcighaaT.PrintLast Go.Proofs.YtnkldnkolcighaaT.PrintMore
attribute [local go_sem] max2_int min2_int max_two min_two max_three min_three max_four min_four str_geq str_gtr   -- for this text's walks alone
set_option linter.unusedVariables false
set_option linter.unusedSimpArgs false

/-! ### spec_LoseDisk: function 56 -/
mutual
def spec_LoseDisk.l0 : Nat → List Int → Int → List (S67) → List (S67) → Option ((List (S67)) × Bool)
 | 0, _, _, _, _ => none
 | k + 1, x1, x7, x249000, x252000 => if x7 < (x249000.length : Int) then (if 0 ≤ x7 then (if x7 < (x1.length : Int) then (spec_LoseDisk.j1 k x1 x7 (rd x1 x7) x249000 x252000 ((rd_T67 x249000 x7).f0) ((rd_T67 x249000 x7).f1) ((rd_T67 x249000 x7).f2)) else (spec_LoseDisk.j1 k x1 x7 0 x249000 x252000 ((rd_T67 x249000 x7).f0) ((rd_T67 x249000 x7).f1) ((rd_T67 x249000 x7).f2))) else (none)) else (some (x252000, true))
def spec_LoseDisk.j1 : Nat → List Int → Int → Int → List (S67) → List (S67) → ByteArray → ByteArray → Int → Option ((List (S67)) × Bool)
 | 0, _, _, _, _, _, _, _, _ => none
 | k + 1, x1, x7, x9, x249000, x252000, x254000, x254001, x254002 => if x9 > (x254001.size : Int) then (if (x254001.size : Int) < x254002 then (if 0 ≤ x254002 then (if x254002 ≤ (x254001.size : Int) then (if x252000.length < 3518437208883 then (spec_LoseDisk.l0 k x1 (wrap64 (x7 + 1)) x249000 (x252000 ++ [(⟨x254000, x254001.extract 0 (x254002 : Int).toNat, x254002⟩ : S67)])) else (none)) else (none)) else (none)) else (if 0 ≤ (x254001.size : Int) then (if (x254001.size : Int) ≤ (x254001.size : Int) then (if x252000.length < 3518437208883 then (spec_LoseDisk.l0 k x1 (wrap64 (x7 + 1)) x249000 (x252000 ++ [(⟨x254000, x254001.extract 0 ((x254001.size : Int) : Int).toNat, (x254001.size : Int)⟩ : S67)])) else (none)) else (none)) else (none))) else (if x9 < x254002 then (if 0 ≤ x254002 then (if x254002 ≤ (x254001.size : Int) then (if x252000.length < 3518437208883 then (spec_LoseDisk.l0 k x1 (wrap64 (x7 + 1)) x249000 (x252000 ++ [(⟨x254000, x254001.extract 0 (x254002 : Int).toNat, x254002⟩ : S67)])) else (none)) else (none)) else (none)) else (if 0 ≤ x9 then (if x9 ≤ (x254001.size : Int) then (if x252000.length < 3518437208883 then (spec_LoseDisk.l0 k x1 (wrap64 (x7 + 1)) x249000 (x252000 ++ [(⟨x254000, x254001.extract 0 (x9 : Int).toNat, x9⟩ : S67)])) else (none)) else (none)) else (none)))
end
def spec_LoseDisk.f (k : Nat) (l0_0 : List (S67)) (l1 : List Int) : Option ((List (S67)) × Bool) := (spec_DiskOk.f k l0_0).bind fun t250 => (if t250 = true then (spec_LoseDisk.l0 k l1 0 l0_0 ([] : List (S67))) else (some (([] : List (S67)), false)))
theorem Kx.extract_all (b : ByteArray) : b.extract 0 b.size = b := by simp
theorem spec_LoseDisk.mono_l : ∀ k, (∀ y0 y1 y2 y3, LeO (spec_LoseDisk.l0 k y0 y1 y2 y3) (spec_LoseDisk.l0 (k + 1) y0 y1 y2 y3)) ∧ (∀ y0 y1 y2 y3 y4 y5 y6 y7, LeO (spec_LoseDisk.j1 k y0 y1 y2 y3 y4 y5 y6 y7) (spec_LoseDisk.j1 (k + 1) y0 y1 y2 y3 y4 y5 y6 y7))
 | 0 => ⟨fun _ _ _ _ r h => by simp [spec_LoseDisk.l0] at h, fun _ _ _ _ _ _ _ _ r h => by simp [spec_LoseDisk.j1] at h⟩
 | k + 1 => by
  obtain ⟨ih0, ih1⟩ := spec_LoseDisk.mono_l k
  refine ⟨?_, ?_⟩
  ·intro y0 y1 y2 y3
   unfold spec_LoseDisk.l0
   repeat' first
   | (with_reducible exact LeO.refl _)
   | (with_reducible refine LeO.ite ?_ ?_)
   | (with_reducible refine LeO.bind ?_ (fun _ => ?_))
   | exact ih0 _ _ _ _
   | exact ih1 _ _ _ _ _ _ _ _
   | exact spec_DiskOk.mono _ _
   | exact LeO.none _
   | refine LeO.ite ?_ ?_
   | refine LeO.bind ?_ (fun _ => ?_)
  intro y0 y1 y2 y3 y4 y5 y6 y7
  unfold spec_LoseDisk.j1
  repeat' first
  | (with_reducible exact LeO.refl _)
  | (with_reducible refine LeO.ite ?_ ?_)
  | (with_reducible refine LeO.bind ?_ (fun _ => ?_))
  | exact ih0 _ _ _ _
  | exact ih1 _ _ _ _ _ _ _ _
  | exact spec_DiskOk.mono _ _
  | exact LeO.none _
  | refine LeO.ite ?_ ?_
  | refine LeO.bind ?_ (fun _ => ?_)
theorem spec_LoseDisk.mono : ∀ a0 a1 k, LeO (spec_LoseDisk.f k a0 a1) (spec_LoseDisk.f (k + 1) a0 a1) := by
 intro a0 a1 k
 obtain ⟨ih0, ih1⟩ := spec_LoseDisk.mono_l k
 unfold spec_LoseDisk.f
 repeat' first
   | (with_reducible exact LeO.refl _)
   | (with_reducible refine LeO.ite ?_ ?_)
   | (with_reducible refine LeO.bind ?_ (fun _ => ?_))
   | exact ih0 _ _ _ _
   | exact ih1 _ _ _ _ _ _ _ _
   | exact spec_DiskOk.mono _ _
   | exact LeO.none _
   | refine LeO.ite ?_ ?_
   | refine LeO.bind ?_ (fun _ => ?_)
def spec_LoseDisk.T15 : Bool × List (List Nat × List Nat) := (true, [([], []), ([0], [0]), ([], []), ([2], [2]), ([], []), ([4], [4]), ([], []), ([5, 6], [5, 6]), ([], []), ([3, 7, 8], [3, 7, 8]), ([9], [9]), ([1, 10], [1, 10]), ([0, 1, 2, 3, 4, 5, 6, 7, 8, 9, 10, 11], []), ([12, 11, 11, 0, 1, 2, 3, 4, 5, 6, 7, 8, 9, 10, 11], [11, 12])])
def spec_LoseDisk.B15 : List Nat := [0, 1, 0, 4, 0, 16, 0, 112, 0, 508, 1020, 2047, 4095, 8191]
theorem spec_LoseDisk.tab15 : rtab .any (opsOf Try.f56 15) = spec_LoseDisk.T15 := by kernel_rfl
theorem spec_LoseDisk.bits15 : waitsOk spec_LoseDisk.T15.2 spec_LoseDisk.B15 = true := by kernel_rfl
set_option maxHeartbeats 8000000 in
set_option maxRecDepth 100000 in
theorem spec_LoseDisk.calls (k : Nat) (A0_0 : Option Addr) (c0_0 : Nat) (l0_0 : List (S67)) (A1 : Option Addr) (c1 : Nat) (l1 : List Int) (r1 : List (S67)) (r2 : Bool) (w : World) (hr0_0 : Kd.C k67 w A0_0 l0_0.length l0_0) (hc0_0 : l0_0.length ≤ c0_0) (hr1 : Kd.C (Kd.int .i64) w A1 l1.length l1) (hc1 : l1.length ≤ c1) (h : spec_LoseDisk.f k l0_0 l1 = some (r1, r2)) :
  Calls Try.prog 56 #[.agg #[.slice A0_0 l0_0.length c0_0], .slice A1 l1.length c1] w fun e w' => ∃ v0_ : Value, e = .returned (.tuple #[.agg #[v0_], .bool r2]) ∧ Kd.R k67 67 w' w.heap.size (fun _ => True) v0_ r1 ∧ Below w.heap.size w w' := by
 have hu30 := Try.underlying30
 have hu67 := Try.underlying67
 have HR0_0 := AM hr0_0
 have HC0_0 := AM hc0_0
 clear hr0_0 hc0_0
 have HR1 := AM hr1
 have HC1 := AM hc1
 clear hr1 hc1
 have HB := AM (Below.refl w.heap.size w)
 have H : ((spec_DiskOk.f k l0_0).bind fun t250 => (if t250 = true then (spec_LoseDisk.l0 k l1 0 l0_0 ([] : List (S67))) else (some (([] : List (S67)), false)))) = some (r1, r2) := h
 clear h
 replace H := bm H
 obtain ⟨t250, A30, H⟩ := H
 replace H : (if t250 = true then (spec_LoseDisk.l0 k l1 0 l0_0 ([] : List (S67))) else (some (([] : List (S67)), false))) = some (r1, r2) := H
 have A3 := AM A30
 clear A30
 by_cases c4 : t250 = true
 ·subst c4
  have H1 : (spec_LoseDisk.l0 k l1 0 l0_0 ([] : List (S67))) = some (r1, r2) := by rw [if_pos rfl] at H; exact H
  clear H
  have H := H1
  clear H1
  have H' := AM H
  clear H
  go_enter Try.func56, Try.ntmps56
  go_wp2_with (first | ((with_reducible refine gd 2 rfl ?_); refine bx (N := 2) (cs := #[.slice A0_0 l0_0.length c0_0]) (t := 30) ?_; intro gb248 hg w5 hbox hb; have BK248 := AM (hbox); have GW248 := AM (bs hg HB); have GE248 := AM (bs hg HB); replace HB := bq HB hb; clear hb hbox hg) | ((with_reducible refine gd 4 rfl ?_); refine bx (N := 4) (cs := #[.slice none 0 0]) (t := 30) ?_; intro gb249 hg w6 hbox hb; have BK249 := AM (hbox); have GW249 := AM (bt hg hS); have GE249 := AM (bt hg hS); replace HB := AM (below_step (hS) hb); have NB248_249 := AM (nl hg (bk BK248)); have NB249_248 := AM (ng hg (bk BK248)); replace BK248 := bw BK248 hb; clear hb hbox hg; have hnb7 := NB248_249.out; have hnc7 := NB249_248.out; have hcz8_0 := bv BK248 0 (.slice A0_0 l0_0.length c0_0); have hfz8_0 := bz BK248 0) | ((with_reducible refine gc 41 rfl ?_); refine goesL_ (some 11) rfl rfl Try.func41 (by kernel_rfl) rfl #[.agg #[.slice A0_0 l0_0.length c0_0]] rfl am ?_; (with_reducible refine (spec_DiskOk.calls k _ _ l0_0 true _ ?side1 ?side2 A3.out).mono ?_); (case side1 => repeat (first | exact (Kd.C_below HR0_0.out HB.out) | (with_reducible first | refine cA ?_ _ | refine cN ?_ _ | refine cD ?_))); (case side2 => exact HC0_0.out); rintro e w9 ⟨rfl, hb⟩; refine ⟨_, rfl, ?_⟩; replace BK248 := bw BK248 hb; replace BK249 := bw BK249 hb; replace HB := AM (below_step (hS) hb); (try clear hb)) | ((with_reducible refine gd 6 rfl ?_); refine bx (N := 6) (cs := #[.slice none 0 0]) (t := 30) ?_; intro gb251 hg w10 hbox hb; have BK251 := AM (hbox); have GW251 := AM (bt hg hS); have GE251 := AM (bt hg hS); replace HB := AM (below_step (hS) hb); have NB248_251 := AM (nl hg (bk BK248)); have NB251_248 := AM (ng hg (bk BK248)); replace BK248 := bw BK248 hb; have NB249_251 := AM (nl hg (bk BK249)); have NB251_249 := AM (ng hg (bk BK249)); replace BK249 := bw BK249 hb; clear hb hbox hg; have hnb11 := NB251_248.out; have hnc11 := NB248_251.out; have hnb12 := NB251_249.out; have hnc12 := NB249_251.out; have hcz13_0 := bv BK251 0 (.slice none 0 0); have hfz13_0 := bz BK251 0))
  go_loopg [7] k (fun kq v7 w' => ∃ (x7_1 : Int) (x252000_1 : List (S67)) (u252000 : Value), v7 = .int .i64 x7_1 ∧ Aside0 (spec_LoseDisk.l0 kq l1 x7_1 l0_0 x252000_1 = some (r1, r2)) ∧ Aside0 (kq ≤ k) ∧ Aside0 (Kd.R k67 67 w' w.heap.size (fun _ => True) u252000 x252000_1) ∧ Aside0 (w'.heap[gb248]? = some (.cells #[(.slice A0_0 l0_0.length c0_0)] 30 (0, 0))) ∧ Aside0 (w'.heap[gb249]? = some (.cells #[(.slice none 0 0)] 30 (0, 0))) ∧ Aside0 (w'.heap[gb251]? = some (.cells #[u252000] 30 (0, 0))) ∧ Aside0 (Below w.heap.size w w'))
  case atStart => exact ⟨(0), (([] : List (S67))), (.slice none 0 0), sf, H', ⟨Nat.le_refl _⟩, ⟨by first | exact Kd.R_nil _ _ _ _ _ | exact Kd.N_nil _ _ _ _ _ | exact Kd.V_nil _ _ _ _ _ | exact Kd.Q_nil _ _ _ _ _ | exact Kd.S_nil _ _ _ _ _⟩, ⟨be⟩, ⟨be⟩, ⟨by (with_reducible repeat first | apply aN | apply aD | apply aA); refine blk_put (cs := #[.slice none 0 0]) ?_ 0 _ rfl; exact bk BK251⟩, ⟨hS⟩⟩
  clear H'
  obtain ⟨x7_1, x252000_1, u252000, rfl, HA, HK1, HO_252000, BK248, BK249, BK251, HB⟩ := hrel
  cases gk with
  | zero => exact absurd HA.out (by simp [spec_LoseDisk.l0])
  | succ k1 =>
   have H := HA.out
   clear HA
   simp only [spec_LoseDisk.l0] at H
   by_cases c14 : x7_1 < (l0_0.length : Int)
   ·rw [if_pos c14] at H
    have c14b0 : decide (x7_1 < (l0_0.length : Int)) = true := decide_eq_true c14
    clear c14
    by_cases c15 : 0 ≤ x7_1
    ·rw [if_pos c15] at H
     have c15b0 : decide (0 ≤ x7_1) = true := decide_eq_true c15
     clear c15
     have HC16 := AM H
     clear H
     have hnb17 := NB248_249.out
     have hnc17 := NB249_248.out
     have hnb18 := NB248_251.out
     have hnc18 := NB251_248.out
     have hcz19_0 := bv BK248 0 (.slice A0_0 l0_0.length c0_0)
     have hfz19_0 := bz BK248 0
     have p252 : 0 ≤ (x7_1 : Int) := od
     have q252 : x7_1 < (l0_0.length : Int) := od
     obtain ⟨ad252, e252, hx252_0, hx252_1, hx252_2⟩ := at_T67 HR0_0.out x7_1 p252 q252
     cases e252
     replace hx252_0 := cl HB hx252_0
     replace hx252_1 := cl HB hx252_1
     replace hx252_2 := cl HB hx252_2
     replace p252 := eq_true p252
     replace q252 := eq_true q252
     go_upto_if 30 with (first | ((with_reducible refine gd 8 rfl ?_); refine bx (N := 8) (cs := #[.string (⟨#[]⟩ : ByteArray), .string (⟨#[]⟩ : ByteArray), .int .i64 0]) (t := 67) ?_; intro gb253 hg w20 hbox hb; replace HO_252000 := AM (Kd.R_below (Kd.R_elderB (by exact HO_252000.out) gb253 (Nat.le_of_eq hg.symm)) hb); have BK253 := AM (hbox); have GW253 := AM (bt hg hS); have GE253 := AM (bt hg hS); replace HB := AM (below_step (hS) hb); have NB248_253 := AM (nl hg (bk BK248)); have NB253_248 := AM (ng hg (bk BK248)); replace BK248 := bw BK248 hb; have NB249_253 := AM (nl hg (bk BK249)); have NB253_249 := AM (ng hg (bk BK249)); replace BK249 := bw BK249 hb; have NB251_253 := AM (nl hg (bk BK251)); have NB253_251 := AM (ng hg (bk BK251)); replace BK251 := bw BK251 hb; clear hb hbox hg; have hnb21 := NB253_248.out; have hnc21 := NB248_253.out; have hnb22 := NB253_249.out; have hnc22 := NB249_253.out; have hnb23 := NB253_251.out; have hnc23 := NB251_253.out; have hcz24_0 := bv BK253 0 (.string (⟨#[]⟩ : ByteArray)); have hcz24_1 := bv BK253 1 (.string (⟨#[]⟩ : ByteArray)); have hcz24_2 := bv BK253 2 (.int .i64 0); have hfz24_0 := bz BK253 0; have hfz24_1 := bz BK253 1; have hfz24_2 := bz BK253 2))
     (try simp only [Act.put, qT, q0, qS])
     go_cut [9] (fun v9 wc => ∃ (kq : Nat) (x9_15 : Int), v9 = .int .i64 x9_15 ∧ Aside0 (spec_LoseDisk.j1 kq l1 x7_1 x9_15 l0_0 x252000_1 ((rd_T67 l0_0 x7_1).f0) ((rd_T67 l0_0 x7_1).f1) ((rd_T67 l0_0 x7_1).f2) = some (r1, r2)) ∧ Aside0 (kq ≤ k1) ∧ Aside0 (Kd.R k67 67 wc w.heap.size (fun k_ => k_ ≠ gb253) u252000 x252000_1) ∧ Aside0 (wc.heap[gb248]? = some (.cells #[(.slice (some ad252) l0_0.length c0_0)] 30 (0, 0))) ∧ Aside0 (wc.heap[gb249]? = some (.cells #[(.slice none 0 0)] 30 (0, 0))) ∧ Aside0 (wc.heap[gb251]? = some (.cells #[u252000] 30 (0, 0))) ∧ Aside0 (wc.heap[gb253]? = some (.cells #[.string ((rd_T67 l0_0 x7_1).f0), .string ((rd_T67 l0_0 x7_1).f1), .int .i64 ((rd_T67 l0_0 x7_1).f2)] 67 (0, 0))) ∧ Aside0 (Below w.heap.size w wc))
     case first =>
      have H := HC16.out
      clear HC16
      by_cases c25 : x7_1 < (l1.length : Int)
      ·rw [if_pos c25] at H
       have c25b0 : decide (x7_1 < (l1.length : Int)) = true := decide_eq_true c25
       clear c25
       (first | rw [c25b0] | (simp only [i64_w, i32_w]; rw [c25b0]) | rw [c25b1] | skip)
       have H' := AM H
       clear H
       have p254 : 0 ≤ (x7_1 : Int) := od
       have q254 : x7_1 < (l1.length : Int) := od
       obtain ⟨ad254, e254, hx254_0⟩ := Kd.at_int HR1.out x7_1 p254 q254
       cases e254
       have hn254_0 : ad254.block ≠ gb253 := Nat.ne_of_lt (Nat.lt_of_lt_of_le (by have := World.block_lt_of_cell? _ _ hx254_0; first | rwa [add_block] at this | exact this) GW253.out)
       have hn254_1 : ad254.block ≠ gb253 := Nat.ne_of_lt (Nat.lt_of_lt_of_le (by have := World.block_lt_of_cell? _ _ hx254_0; first | rwa [add_block] at this | exact this) GW253.out)
       have hn254_2 : ad254.block ≠ gb253 := Nat.ne_of_lt (Nat.lt_of_lt_of_le (by have := World.block_lt_of_cell? _ _ hx254_0; first | rwa [add_block] at this | exact this) GW253.out)
       replace hx254_0 := cl HB hx254_0
       replace hx254_0 := (cell_far (p := ⟨gb253, 0, none⟩) (by first | (rw [add_block]; exact hn254_0) | (show (Addr.add _ _).block ≠ _; rw [add_block]; exact hn254_0) | exact hn254_0) (.string ((rd_T67 l0_0 x7_1).f0))).trans hx254_0
       replace hx254_0 := (cell_far (p := ⟨gb253, 1, none⟩) (by first | (rw [add_block]; exact hn254_1) | (show (Addr.add _ _).block ≠ _; rw [add_block]; exact hn254_1) | exact hn254_1) (.string ((rd_T67 l0_0 x7_1).f1))).trans hx254_0
       replace hx254_0 := (cell_far (p := ⟨gb253, 2, none⟩) (by first | (rw [add_block]; exact hn254_2) | (show (Addr.add _ _).block ≠ _; rw [add_block]; exact hn254_2) | exact hn254_2) (.int .i64 ((rd_T67 l0_0 x7_1).f2))).trans hx254_0
       clear hn254_0
       clear hn254_1
       clear hn254_2
       replace p254 := eq_true p254
       replace q254 := eq_true q254
       go_wp2
       go_meet
       case rel => exact ⟨_, (rd l1 x7_1), sf, H', ⟨by have := HK1.out; first | omega | exact Nat.le_refl _⟩, ⟨by exact Kd.R_mono (Kd.R_far (p := ⟨gb253, 2, none⟩) (Kd.R_far (p := ⟨gb253, 1, none⟩) (Kd.R_far (p := ⟨gb253, 0, none⟩) (Kd.R_mono HO_252000.out (fun k_ hk => (⟨hk, hk.2⟩ : _ ∧ k_ ≠ gb253))) (fun _ hk => hk.2) (.string ((rd_T67 l0_0 x7_1).f0))) (fun _ hk => hk.2) (.string ((rd_T67 l0_0 x7_1).f1))) (fun _ hk => hk.2) (.int .i64 ((rd_T67 l0_0 x7_1).f2))) (fun _ hk => hk.1.2)⟩, ⟨be⟩, ⟨be⟩, ⟨be⟩, ⟨by (with_reducible repeat first | apply aN | apply aD | apply aA); refine blk_put (cs := #[.string ((rd_T67 l0_0 x7_1).f0), .string ((rd_T67 l0_0 x7_1).f1), .int .i64 0]) ?_ 2 _ rfl; (with_reducible repeat first | apply aN | apply aD | apply aA); refine blk_put (cs := #[.string ((rd_T67 l0_0 x7_1).f0), .string (⟨#[]⟩ : ByteArray), .int .i64 0]) ?_ 1 _ rfl; (with_reducible repeat first | apply aN | apply aD | apply aA); refine blk_put (cs := #[.string (⟨#[]⟩ : ByteArray), .string (⟨#[]⟩ : ByteArray), .int .i64 0]) ?_ 0 _ rfl; exact bk BK253⟩, ⟨hS⟩⟩
      rw [if_neg c25] at H
      have c25b0 : decide (x7_1 < (l1.length : Int)) = false := decide_eq_false c25
      clear c25
      (first | rw [c25b0] | (simp only [i64_w, i32_w]; rw [c25b0]) | rw [c25b1] | skip)
      have H' := AM H
      clear H
      go_wp2
      go_meet
      case rel => exact ⟨_, (0), sf, H', ⟨by have := HK1.out; first | omega | exact Nat.le_refl _⟩, ⟨by exact Kd.R_mono (Kd.R_far (p := ⟨gb253, 2, none⟩) (Kd.R_far (p := ⟨gb253, 1, none⟩) (Kd.R_far (p := ⟨gb253, 0, none⟩) (Kd.R_mono HO_252000.out (fun k_ hk => (⟨hk, hk.2⟩ : _ ∧ k_ ≠ gb253))) (fun _ hk => hk.2) (.string ((rd_T67 l0_0 x7_1).f0))) (fun _ hk => hk.2) (.string ((rd_T67 l0_0 x7_1).f1))) (fun _ hk => hk.2) (.int .i64 ((rd_T67 l0_0 x7_1).f2))) (fun _ hk => hk.1.2)⟩, ⟨be⟩, ⟨be⟩, ⟨be⟩, ⟨by (with_reducible repeat first | apply aN | apply aD | apply aA); refine blk_put (cs := #[.string ((rd_T67 l0_0 x7_1).f0), .string ((rd_T67 l0_0 x7_1).f1), .int .i64 0]) ?_ 2 _ rfl; (with_reducible repeat first | apply aN | apply aD | apply aA); refine blk_put (cs := #[.string ((rd_T67 l0_0 x7_1).f0), .string (⟨#[]⟩ : ByteArray), .int .i64 0]) ?_ 1 _ rfl; (with_reducible repeat first | apply aN | apply aD | apply aA); refine blk_put (cs := #[.string (⟨#[]⟩ : ByteArray), .string (⟨#[]⟩ : ByteArray), .int .i64 0]) ?_ 0 _ rfl; exact bk BK253⟩, ⟨hS⟩⟩
     case rest =>
      clear HC16
      obtain ⟨kq, x9_15, rfl, HA, HJ15, HO_252000, BK248, BK249, BK251, BK253, HB⟩ := hcut
      cases kq with
      | zero => exact absurd HA.out (by simp [spec_LoseDisk.j1])
      | succ kj15 =>
       have H := HA.out
       clear HA
       simp only [spec_LoseDisk.j1] at H
       by_cases c26 : x9_15 > (((rd_T67 l0_0 x7_1).f1).size : Int)
       ·rw [if_pos c26] at H
        have c26b0 : decide ((((rd_T67 l0_0 x7_1).f1).size : Int) < x9_15) = true := decide_eq_true c26
        clear c26
        by_cases c27 : (((rd_T67 l0_0 x7_1).f1).size : Int) < ((rd_T67 l0_0 x7_1).f2)
        ·rw [if_pos c27] at H
         have c27b0 : decide ((((rd_T67 l0_0 x7_1).f1).size : Int) < ((rd_T67 l0_0 x7_1).f2)) = true := decide_eq_true c27
         clear c27
         by_cases c28 : 0 ≤ ((rd_T67 l0_0 x7_1).f2)
         ·rw [if_pos c28] at H
          have c28b0 := eq_true c28
          have c28b1 : decide (0 ≤ ((rd_T67 l0_0 x7_1).f2)) = true := decide_eq_true c28
          clear c28
          by_cases c29 : ((rd_T67 l0_0 x7_1).f2) ≤ (((rd_T67 l0_0 x7_1).f1).size : Int)
          ·rw [if_pos c29] at H
           have c29b0 := eq_true c29
           have c29b1 : decide (((rd_T67 l0_0 x7_1).f2) ≤ (((rd_T67 l0_0 x7_1).f1).size : Int)) = true := decide_eq_true c29
           clear c29
           by_cases c30 : x252000_1.length < 3518437208883
           ·rw [if_pos c30] at H
            have LMc30 := AM c30
            clear c30
            obtain ⟨y255, hy255⟩ : ∃ y_ : List (S67), y_ = (x252000_1 ++ [(⟨((rd_T67 l0_0 x7_1).f0), ((rd_T67 l0_0 x7_1).f1).extract 0 (((rd_T67 l0_0 x7_1).f2) : Int).toNat, ((rd_T67 l0_0 x7_1).f2)⟩ : S67)]) := ⟨_, rfl⟩
            replace H : (spec_LoseDisk.l0 kj15 l1 (wrap64 (x7_1 + 1)) l0_0 y255) = some (r1, r2) := by first | (rw [hy255]; with_reducible exact H) | (have H2_ := (Option.bind_some _ _).symm.trans H; rw [hy255]; with_reducible exact H2_) | (have H2_ := (Option.bind_some _ _).symm.trans H; with_reducible exact H2_) | with_reducible exact H | (rw [hy255]; exact H) | exact H
            have Ny255 := AM hy255
            clear hy255
            have H' := AM H
            clear H
            have hnb31 := NB253_248.out
            have hnc31 := NB248_253.out
            have hnb32 := NB253_249.out
            have hnc32 := NB249_253.out
            have hnb33 := NB253_251.out
            have hnc33 := NB251_253.out
            have hcz34_0 := bv BK253 0 (.string ((rd_T67 l0_0 x7_1).f0))
            have hcz34_1 := bv BK253 1 (.string ((rd_T67 l0_0 x7_1).f1))
            have hcz34_2 := bv BK253 2 (.int .i64 ((rd_T67 l0_0 x7_1).f2))
            have hfz34_0 := bz BK253 0
            have hfz34_1 := bz BK253 1
            have hfz34_2 := bz BK253 2
            try go_wp2
            replace HO_252000 := AM (Kd.R_drew HO_252000.out)
            replace BK248 := AM (blk_drew BK248.out)
            replace BK249 := AM (blk_drew BK249.out)
            replace BK251 := AM (blk_drew BK251.out)
            replace BK253 := AM (blk_drew BK253.out)
            replace HB := AM (below_drew1 HB.out)
            refine start_ (n := 14) (S := fun w' => w'.cell? ⟨gb251, 0, none⟩ = some (u252000) ∧ w'.cell? ⟨gb253, 0, none⟩ = some (.string ((rd_T67 l0_0 x7_1).f0)) ∧ w'.cell? ⟨gb253, 1, none⟩ = some (.string ((rd_T67 l0_0 x7_1).f1)) ∧ w'.cell? ⟨gb253, 2, none⟩ = some (.int .i64 ((rd_T67 l0_0 x7_1).f2))) (ds := [13]) #[false, false, false, false, false, false, false, false, false, false, false, false, false, false] (by kernel_rfl) rfl rfl ⟨bc BK251 0, bc BK253 0, bc BK253 1, bc BK253 2⟩ (fun hHeld => ?_); refine with_tabW spec_LoseDisk.tab15 spec_LoseDisk.bits15 (fun HT_ HW_ => ?_)
            generalize wc.drew = w35 at HO_252000 BK248 BK249 BK251 BK253 HB hHeld ⊢
            refine pure_ (i := 0) (N := some 49) (v := ?_) (a' := ?_) #[true, false, false, false, false, false, false, false, false, false, false, false, false, false] rfl rfl (any_of HT_.out (by kernel_rfl)) (fun _ _ _ h => h) (Or.inl ⟨by rfl, ?_⟩) ?_ ?_
            rotate_left
            ·intro w'
             go_simp
             with_reducible rfl
            rotate_left
            ·simp only [Act.put, qT, q0, qS, i64_w, i32_w]
             rfl
            refine pure_ (i := 2) (N := some 51) (v := ?_) (a' := ?_) #[true, false, true, false, false, false, false, false, false, false, false, false, false, false] rfl rfl (any_of HT_.out (by kernel_rfl)) (fun _ _ _ h => h) (Or.inl ⟨by rfl, ?_⟩) ?_ ?_
            rotate_left
            ·intro w'
             go_simp
             with_reducible rfl
            rotate_left
            ·simp only [Act.put, qT, q0, qS, i64_w, i32_w]
             rfl
            refine pure_ (i := 4) (N := some 53) (v := ?_) (a' := ?_) #[true, false, true, false, true, false, false, false, false, false, false, false, false, false] rfl rfl (any_of HT_.out (by kernel_rfl)) (fun _ _ _ h => h) (Or.inl ⟨by rfl, ?_⟩) ?_ ?_
            rotate_left
            ·intro w'
             go_simp
             with_reducible rfl
            rotate_left
            ·simp only [Act.put, qT, q0, qS, i64_w, i32_w]
             rfl
            refine pure_ (i := 6) (N := some 55) (v := ?_) (a' := ?_) #[true, false, true, false, true, false, true, false, false, false, false, false, false, false] rfl rfl (any_of HT_.out (by kernel_rfl)) (fun _ _ _ h => h) (Or.inl ⟨by rfl, ?_⟩) ?_ ?_
            rotate_left
            ·intro w'
             go_simp
             with_reducible rfl
            rotate_left
            ·simp only [Act.put, qT, q0, qS, i64_w, i32_w]
             rfl
            refine pure_ (i := 8) (N := some 57) (v := ?_) (a' := ?_) #[true, false, true, false, true, false, true, false, true, false, false, false, false, false] rfl rfl (any_of HT_.out (by kernel_rfl)) (fun _ _ _ h => h) (Or.inl ⟨by rfl, ?_⟩) ?_ ?_
            rotate_left
            ·intro w'
             go_simp
             with_reducible rfl
            rotate_left
            ·simp only [Act.put, qT, q0, qS, i64_w, i32_w]
             rfl
            refine take_ (i := 1) (N := some 50) (v := ?_) (a' := ?_) #[true, true, true, false, true, false, true, false, true, false, false, false, false, false] rfl rfl (take_ofW HT_.out HW_.out (by kernel_rfl)) (fun _ _ _ h => h) (Or.inl ⟨by rfl, ?_⟩) hHeld ?_ ?_
            rotate_left
            ·rintro w' ⟨s0, s1, s2, s3⟩
             go_simp
             with_reducible rfl
            rotate_left
            ·simp only [Act.put, qT, q0, qS, i64_w, i32_w]
             rfl
            refine take_ (i := 3) (N := some 52) (v := ?_) (a' := ?_) #[true, true, true, true, true, false, true, false, true, false, false, false, false, false] rfl rfl (take_ofW HT_.out HW_.out (by kernel_rfl)) (fun _ _ _ h => h) (Or.inl ⟨by rfl, ?_⟩) hHeld ?_ ?_
            rotate_left
            ·rintro w' ⟨s0, s1, s2, s3⟩
             go_simp
             with_reducible rfl
            rotate_left
            ·simp only [Act.put, qT, q0, qS, i64_w, i32_w]
             rfl
            refine take_ (i := 5) (N := some 54) (v := ?_) (a' := ?_) #[true, true, true, true, true, true, true, false, true, false, false, false, false, false] rfl rfl (take_ofW HT_.out HW_.out (by kernel_rfl)) (fun _ _ _ h => h) (Or.inl ⟨by rfl, ?_⟩) hHeld ?_ ?_
            rotate_left
            ·rintro w' ⟨s0, s1, s2, s3⟩
             go_simp
             with_reducible rfl
            rotate_left
            ·simp only [Act.put, qT, q0, qS, i64_w, i32_w]
             rfl
            refine pure_ (i := 7) (N := some 56) (v := ?_) (a' := ?_) #[true, true, true, true, true, true, true, true, true, false, false, false, false, false] rfl rfl (any_of HT_.out (by kernel_rfl)) (fun _ _ _ h => h) (Or.inl ⟨by rfl, ?_⟩) ?_ ?_
            rotate_left
            ·intro w'
             go_simp
             with_reducible rfl
            rotate_left
            ·simp only [Act.put, qT, q0, qS, i64_w, i32_w]
             rfl
            refine pure_ (i := 9) (N := some 58) (v := ?_) (a' := ?_) #[true, true, true, true, true, true, true, true, true, true, false, false, false, false] rfl rfl (any_of HT_.out (by kernel_rfl)) (fun _ _ _ h => h) (Or.inl ⟨by rfl, ?_⟩) ?_ ?_
            rotate_left
            ·intro w'
             go_simp
             with_reducible rfl
            rotate_left
            ·simp only [Act.put, qT, q0, qS, i64_w, i32_w]
             rfl
            refine one_ (i := 10) (N := some 59) #[true, true, true, true, true, true, true, true, true, true, true, false, false, false] rfl rfl (one_of HT_.out (by kernel_rfl)) (by decide) (fun K hK => ?_)
            refine value_ (w1 := ?_) (v := ?_) (by rfl) rfl ?_ ?_
            rotate_left 2
            ·go_simp
             constructor
             ·rfl
             rfl
            refine hK.out _ _ ⟨(blk_cell (blk_alloc BK251.out _) 0).trans rfl, (blk_cell (blk_alloc BK253.out _) 0).trans rfl, (blk_cell (blk_alloc BK253.out _) 1).trans rfl, (blk_cell (blk_alloc BK253.out _) 2).trans rfl⟩ (fun hHeld => ?_)
            clear hK K
            refine norm_ (a' := ?_) ?_ ?_
            rotate_left
            ·show Act.put _ (some 59) _ = _
             simp only [Act.put, qT, q0, qS, i64_w, i32_w]
             rfl
            refine one_ (i := 11) (N := some 60) #[true, true, true, true, true, true, true, true, true, true, true, true, false, false] rfl rfl (one_of HT_.out (by kernel_rfl)) (by decide) (fun K hK => ?_)
            refine Kd.R_append_step k67 (w0 := w) w.heap.size (by rfl) (.tmp 50) (.tmp 59) 28 67 (.agg #[(.string ⟨#[]⟩), (.string ⟨#[]⟩), (.int .i64 0)]) 40 rfl Try.underlying28 info67 rfl (by decide) (by omega) u252000 x252000_1 (⟨((rd_T67 l0_0 x7_1).f0), ((rd_T67 l0_0 x7_1).f1).extract 0 (((rd_T67 l0_0 x7_1).f2) : Int).toNat, ((rd_T67 l0_0 x7_1).f2)⟩ : S67) [.string ((rd_T67 l0_0 x7_1).f0), .string (((rd_T67 l0_0 x7_1).f1).extract 0 (((rd_T67 l0_0 x7_1).f2) : Int).toNat), .int .i64 ((rd_T67 l0_0 x7_1).f2)] (fun k_ => k_ ≠ gb253) (fun _ => False) rfl rfl ?aP (fun _ hk => hk.elim) ?aF ?aO ?aB ?aS ?aL ?_
            (case aP => exact k67_mkM _ _ _ (⟨((rd_T67 l0_0 x7_1).f0), ((rd_T67 l0_0 x7_1).f1).extract 0 (((rd_T67 l0_0 x7_1).f2) : Int).toNat, ((rd_T67 l0_0 x7_1).f2)⟩ : S67))
            (case aB => exact (hS))
            (case aF => exact (fun k_ hk => Kd.freshB (g := gb253) (o := .cells #[.string ((rd_T67 l0_0 x7_1).f0), .string ((rd_T67 l0_0 x7_1).f1), .int .i64 ((rd_T67 l0_0 x7_1).f2)] 67 (0, 0)) (bk BK253) k_ hk))
            (case aO => exact (by exact HO_252000.out))
            (case aS => exact (below_size (hS)))
            (case aL => have := LMc30.out; omega)
            intro v256 w36 ho hb hg hat
            rw [← Ny255.out] at ho
            replace BK248 := AM (blk_grown (g := gb248) (o := .cells #[.slice (some ad252) l0_0.length c0_0] 30 (0, 0)) (bk BK248) hg (Kd.R_ne HO_252000.out BK248.out (by decide)))
            replace BK249 := AM (blk_grown (g := gb249) (o := .cells #[.slice none 0 0] 30 (0, 0)) (bk BK249) hg (Kd.R_ne HO_252000.out BK249.out (by decide)))
            replace BK251 := AM (blk_grown (g := gb251) (o := .cells #[u252000] 30 (0, 0)) (bk BK251) hg (Kd.R_ne HO_252000.out BK251.out (by decide)))
            replace BK253 := AM (blk_grown (g := gb253) (o := .cells #[.string ((rd_T67 l0_0 x7_1).f0), .string ((rd_T67 l0_0 x7_1).f1), .int .i64 ((rd_T67 l0_0 x7_1).f2)] 67 (0, 0)) (bk BK253) hg (Kd.R_away HO_252000.out (fun _ hk => hk)))
            replace HB := AM (hb)
            have HO257 := AM (ho)
            clear HO_252000
            clear ho hb hg hat
            obtain ⟨Ao37, co37, eo37⟩ := Kd.R_slice HO257.out
            (first | subst eo37 | (injection eo37 with f1_ f2_ f3_; have f4_ := f1_.symm; have f5_ := f3_.symm; clear f1_ f2_ f3_; subst f4_; subst f5_))
            refine hK.out _ _ ⟨bc BK251 0, bc BK253 0, bc BK253 1, bc BK253 2⟩ (fun hHeld => ?_)
            clear hK K
            refine norm_ (a' := ?_) ?_ ?_
            rotate_left
            ·show Act.put _ (some 60) _ = _
             simp only [Act.put, qT, q0, qS, i64_w, i32_w]
             rfl
            refine pure_ (i := 12) (N := some 61) (v := ?_) (a' := ?_) #[true, true, true, true, true, true, true, true, true, true, true, true, true, false] rfl rfl (any_of HT_.out (by kernel_rfl)) (fun _ _ _ h => h) (Or.inl ⟨by rfl, ?_⟩) ?_ ?_
            rotate_left
            ·intro w'
             go_simp
             with_reducible rfl
            rotate_left
            ·simp only [Act.put, qT, q0, qS, i64_w, i32_w]
             rfl
            refine last_ (i := 13) (N := none) #[true, true, true, true, true, true, true, true, true, true, true, true, true, true] rfl rfl (one_of HT_.out (by kernel_rfl)) (by decide) (fun K hK => ?_)
            have hs38 : w36.cell? ⟨gb251, 0, none⟩ = some (u252000) := bc BK251 0
            have hfs38 := bz BK251 0
            have hns38_0 := NB248_251.out
            have hns38_1 := NB249_251.out
            have hns38_3 := NB253_251.out
            have hms38_0 := NB251_248.out
            have hms38_1 := NB251_249.out
            have hms38_3 := NB251_253.out
            refine skip_ (w1 := ?_) (by rfl) rfl ?_ ?_
            rotate_left
            ·go_simp
             rfl
            refine hK.out _ _ ?_
            clear hK K
            refine done_ (done_of HT_.out (by kernel_rfl)) ?_
            try go_wp2
            go_roundg kj15
            case measure => have := HK1.out; have := HJ15.out; omega
            case rel => exact ⟨(wrap64 (x7_1 + 1)), (y255), (.slice Ao37 y255.length co37), sf, H', ⟨by have := HK1.out; have := HJ15.out; omega⟩, ⟨by exact Kd.R_mono (Kd.R_far (p := ⟨gb251, 0, none⟩) (Kd.R_types HO257.out BK251.out (by decide)) (fun _ hk => hk.2) (.slice Ao37 y255.length co37)) (fun _ hk => trivial)⟩, ⟨be⟩, ⟨be⟩, ⟨by (with_reducible repeat first | apply aN | apply aD | apply aA); refine blk_put (cs := #[u252000]) ?_ 0 _ rfl; exact bk BK251⟩, ⟨hS⟩⟩
           rw [if_neg c30] at H
           exact absurd H (by simp)
          rw [if_neg c29] at H
          exact absurd H (by simp)
         rw [if_neg c28] at H
         exact absurd H (by simp)
        rw [if_neg c27] at H
        have c27b0 : decide ((((rd_T67 l0_0 x7_1).f1).size : Int) < ((rd_T67 l0_0 x7_1).f2)) = false := decide_eq_false c27
        clear c27
        by_cases c39 : 0 ≤ (((rd_T67 l0_0 x7_1).f1).size : Int)
        ·rw [if_pos c39] at H
         have c39b0 := eq_true c39
         have c39b1 : decide (0 ≤ (((rd_T67 l0_0 x7_1).f1).size : Int)) = true := decide_eq_true c39
         clear c39
         by_cases c40 : (((rd_T67 l0_0 x7_1).f1).size : Int) ≤ (((rd_T67 l0_0 x7_1).f1).size : Int)
         ·rw [if_pos c40] at H
          have c40b0 := eq_true c40
          have c40b1 : decide ((((rd_T67 l0_0 x7_1).f1).size : Int) ≤ (((rd_T67 l0_0 x7_1).f1).size : Int)) = true := decide_eq_true c40
          clear c40
          by_cases c41 : x252000_1.length < 3518437208883
          ·rw [if_pos c41] at H
           have LMc41 := AM c41
           clear c41
           have hEX_ : ((rd_T67 l0_0 x7_1).f1).extract 0 ((((rd_T67 l0_0 x7_1).f1).size : Int) : Int).toNat = ((rd_T67 l0_0 x7_1).f1) := by rw [Int.toNat_natCast, Kx.extract_all]
           rw [hEX_] at H
           clear hEX_
           obtain ⟨y258, hy258⟩ : ∃ y_ : List (S67), y_ = (x252000_1 ++ [(⟨((rd_T67 l0_0 x7_1).f0), ((rd_T67 l0_0 x7_1).f1), (((rd_T67 l0_0 x7_1).f1).size : Int)⟩ : S67)]) := ⟨_, rfl⟩
           replace H : (spec_LoseDisk.l0 kj15 l1 (wrap64 (x7_1 + 1)) l0_0 y258) = some (r1, r2) := by first | (rw [hy258]; with_reducible exact H) | (have H2_ := (Option.bind_some _ _).symm.trans H; rw [hy258]; with_reducible exact H2_) | (have H2_ := (Option.bind_some _ _).symm.trans H; with_reducible exact H2_) | with_reducible exact H | (rw [hy258]; exact H) | exact H
           have Ny258 := AM hy258
           clear hy258
           have H' := AM H
           clear H
           have hnb42 := NB253_248.out
           have hnc42 := NB248_253.out
           have hnb43 := NB253_249.out
           have hnc43 := NB249_253.out
           have hnb44 := NB253_251.out
           have hnc44 := NB251_253.out
           have hcz45_0 := bv BK253 0 (.string ((rd_T67 l0_0 x7_1).f0))
           have hcz45_1 := bv BK253 1 (.string ((rd_T67 l0_0 x7_1).f1))
           have hcz45_2 := bv BK253 2 (.int .i64 ((rd_T67 l0_0 x7_1).f2))
           have hfz45_0 := bz BK253 0
           have hfz45_1 := bz BK253 1
           have hfz45_2 := bz BK253 2
           try go_wp2
           replace HO_252000 := AM (Kd.R_drew HO_252000.out)
           replace BK248 := AM (blk_drew BK248.out)
           replace BK249 := AM (blk_drew BK249.out)
           replace BK251 := AM (blk_drew BK251.out)
           replace BK253 := AM (blk_drew BK253.out)
           replace HB := AM (below_drew1 HB.out)
           refine start_ (n := 14) (S := fun w' => w'.cell? ⟨gb251, 0, none⟩ = some (u252000) ∧ w'.cell? ⟨gb253, 0, none⟩ = some (.string ((rd_T67 l0_0 x7_1).f0)) ∧ w'.cell? ⟨gb253, 1, none⟩ = some (.string ((rd_T67 l0_0 x7_1).f1)) ∧ w'.cell? ⟨gb253, 2, none⟩ = some (.int .i64 ((rd_T67 l0_0 x7_1).f2))) (ds := [13]) #[false, false, false, false, false, false, false, false, false, false, false, false, false, false] (by kernel_rfl) rfl rfl ⟨bc BK251 0, bc BK253 0, bc BK253 1, bc BK253 2⟩ (fun hHeld => ?_); refine with_tabW spec_LoseDisk.tab15 spec_LoseDisk.bits15 (fun HT_ HW_ => ?_)
           generalize wc.drew = w46 at HO_252000 BK248 BK249 BK251 BK253 HB hHeld ⊢
           refine pure_ (i := 0) (N := some 49) (v := ?_) (a' := ?_) #[true, false, false, false, false, false, false, false, false, false, false, false, false, false] rfl rfl (any_of HT_.out (by kernel_rfl)) (fun _ _ _ h => h) (Or.inl ⟨by rfl, ?_⟩) ?_ ?_
           rotate_left
           ·intro w'
            go_simp
            with_reducible rfl
           rotate_left
           ·simp only [Act.put, qT, q0, qS, i64_w, i32_w]
            rfl
           refine pure_ (i := 2) (N := some 51) (v := ?_) (a' := ?_) #[true, false, true, false, false, false, false, false, false, false, false, false, false, false] rfl rfl (any_of HT_.out (by kernel_rfl)) (fun _ _ _ h => h) (Or.inl ⟨by rfl, ?_⟩) ?_ ?_
           rotate_left
           ·intro w'
            go_simp
            with_reducible rfl
           rotate_left
           ·simp only [Act.put, qT, q0, qS, i64_w, i32_w]
            rfl
           refine pure_ (i := 4) (N := some 53) (v := ?_) (a' := ?_) #[true, false, true, false, true, false, false, false, false, false, false, false, false, false] rfl rfl (any_of HT_.out (by kernel_rfl)) (fun _ _ _ h => h) (Or.inl ⟨by rfl, ?_⟩) ?_ ?_
           rotate_left
           ·intro w'
            go_simp
            with_reducible rfl
           rotate_left
           ·simp only [Act.put, qT, q0, qS, i64_w, i32_w]
            rfl
           refine pure_ (i := 6) (N := some 55) (v := ?_) (a' := ?_) #[true, false, true, false, true, false, true, false, false, false, false, false, false, false] rfl rfl (any_of HT_.out (by kernel_rfl)) (fun _ _ _ h => h) (Or.inl ⟨by rfl, ?_⟩) ?_ ?_
           rotate_left
           ·intro w'
            go_simp
            with_reducible rfl
           rotate_left
           ·simp only [Act.put, qT, q0, qS, i64_w, i32_w]
            rfl
           refine pure_ (i := 8) (N := some 57) (v := ?_) (a' := ?_) #[true, false, true, false, true, false, true, false, true, false, false, false, false, false] rfl rfl (any_of HT_.out (by kernel_rfl)) (fun _ _ _ h => h) (Or.inl ⟨by rfl, ?_⟩) ?_ ?_
           rotate_left
           ·intro w'
            go_simp
            with_reducible rfl
           rotate_left
           ·simp only [Act.put, qT, q0, qS, i64_w, i32_w]
            rfl
           refine take_ (i := 1) (N := some 50) (v := ?_) (a' := ?_) #[true, true, true, false, true, false, true, false, true, false, false, false, false, false] rfl rfl (take_ofW HT_.out HW_.out (by kernel_rfl)) (fun _ _ _ h => h) (Or.inl ⟨by rfl, ?_⟩) hHeld ?_ ?_
           rotate_left
           ·rintro w' ⟨s0, s1, s2, s3⟩
            go_simp
            with_reducible rfl
           rotate_left
           ·simp only [Act.put, qT, q0, qS, i64_w, i32_w]
            rfl
           refine take_ (i := 3) (N := some 52) (v := ?_) (a' := ?_) #[true, true, true, true, true, false, true, false, true, false, false, false, false, false] rfl rfl (take_ofW HT_.out HW_.out (by kernel_rfl)) (fun _ _ _ h => h) (Or.inl ⟨by rfl, ?_⟩) hHeld ?_ ?_
           rotate_left
           ·rintro w' ⟨s0, s1, s2, s3⟩
            go_simp
            with_reducible rfl
           rotate_left
           ·simp only [Act.put, qT, q0, qS, i64_w, i32_w]
            rfl
           refine take_ (i := 5) (N := some 54) (v := ?_) (a' := ?_) #[true, true, true, true, true, true, true, false, true, false, false, false, false, false] rfl rfl (take_ofW HT_.out HW_.out (by kernel_rfl)) (fun _ _ _ h => h) (Or.inl ⟨by rfl, ?_⟩) hHeld ?_ ?_
           rotate_left
           ·rintro w' ⟨s0, s1, s2, s3⟩
            go_simp
            with_reducible rfl
           rotate_left
           ·simp only [Act.put, qT, q0, qS, i64_w, i32_w]
            rfl
           refine pure_ (i := 7) (N := some 56) (v := ?_) (a' := ?_) #[true, true, true, true, true, true, true, true, true, false, false, false, false, false] rfl rfl (any_of HT_.out (by kernel_rfl)) (fun _ _ _ h => h) (Or.inl ⟨by rfl, ?_⟩) ?_ ?_
           rotate_left
           ·intro w'
            go_simp
            with_reducible rfl
           rotate_left
           ·simp only [Act.put, qT, q0, qS, i64_w, i32_w]
            rfl
           refine pure_ (i := 9) (N := some 58) (v := ?_) (a' := ?_) #[true, true, true, true, true, true, true, true, true, true, false, false, false, false] rfl rfl (any_of HT_.out (by kernel_rfl)) (fun _ _ _ h => h) (Or.inl ⟨by rfl, ?_⟩) ?_ ?_
           rotate_left
           ·intro w'
            go_simp
            with_reducible rfl
           rotate_left
           ·simp only [Act.put, qT, q0, qS, i64_w, i32_w]
            rfl
           refine one_ (i := 10) (N := some 59) #[true, true, true, true, true, true, true, true, true, true, true, false, false, false] rfl rfl (one_of HT_.out (by kernel_rfl)) (by decide) (fun K hK => ?_)
           refine value_ (w1 := ?_) (v := ?_) (by rfl) rfl ?_ ?_
           rotate_left 2
           ·go_simp
            constructor
            ·rfl
            rfl
           refine hK.out _ _ ⟨(blk_cell (blk_alloc BK251.out _) 0).trans rfl, (blk_cell (blk_alloc BK253.out _) 0).trans rfl, (blk_cell (blk_alloc BK253.out _) 1).trans rfl, (blk_cell (blk_alloc BK253.out _) 2).trans rfl⟩ (fun hHeld => ?_)
           clear hK K
           refine norm_ (a' := ?_) ?_ ?_
           rotate_left
           ·show Act.put _ (some 59) _ = _
            simp only [Act.put, qT, q0, qS, i64_w, i32_w]
            rfl
           refine one_ (i := 11) (N := some 60) #[true, true, true, true, true, true, true, true, true, true, true, true, false, false] rfl rfl (one_of HT_.out (by kernel_rfl)) (by decide) (fun K hK => ?_)
           refine Kd.R_append_step k67 (w0 := w) w.heap.size (by rfl) (.tmp 50) (.tmp 59) 28 67 (.agg #[(.string ⟨#[]⟩), (.string ⟨#[]⟩), (.int .i64 0)]) 40 rfl Try.underlying28 info67 rfl (by decide) (by omega) u252000 x252000_1 (⟨((rd_T67 l0_0 x7_1).f0), ((rd_T67 l0_0 x7_1).f1), (((rd_T67 l0_0 x7_1).f1).size : Int)⟩ : S67) [.string ((rd_T67 l0_0 x7_1).f0), .string (((rd_T67 l0_0 x7_1).f1)), .int .i64 (((rd_T67 l0_0 x7_1).f1).size : Int)] (fun k_ => k_ ≠ gb253) (fun _ => False) rfl rfl ?aP (fun _ hk => hk.elim) ?aF ?aO ?aB ?aS ?aL ?_
           (case aP => exact k67_mkM _ _ _ (⟨((rd_T67 l0_0 x7_1).f0), ((rd_T67 l0_0 x7_1).f1), (((rd_T67 l0_0 x7_1).f1).size : Int)⟩ : S67))
           (case aB => exact (hS))
           (case aF => exact (fun k_ hk => Kd.freshB (g := gb253) (o := .cells #[.string ((rd_T67 l0_0 x7_1).f0), .string ((rd_T67 l0_0 x7_1).f1), .int .i64 ((rd_T67 l0_0 x7_1).f2)] 67 (0, 0)) (bk BK253) k_ hk))
           (case aO => exact (by exact HO_252000.out))
           (case aS => exact (below_size (hS)))
           (case aL => have := LMc41.out; omega)
           intro v259 w47 ho hb hg hat
           rw [← Ny258.out] at ho
           replace BK248 := AM (blk_grown (g := gb248) (o := .cells #[.slice (some ad252) l0_0.length c0_0] 30 (0, 0)) (bk BK248) hg (Kd.R_ne HO_252000.out BK248.out (by decide)))
           replace BK249 := AM (blk_grown (g := gb249) (o := .cells #[.slice none 0 0] 30 (0, 0)) (bk BK249) hg (Kd.R_ne HO_252000.out BK249.out (by decide)))
           replace BK251 := AM (blk_grown (g := gb251) (o := .cells #[u252000] 30 (0, 0)) (bk BK251) hg (Kd.R_ne HO_252000.out BK251.out (by decide)))
           replace BK253 := AM (blk_grown (g := gb253) (o := .cells #[.string ((rd_T67 l0_0 x7_1).f0), .string ((rd_T67 l0_0 x7_1).f1), .int .i64 ((rd_T67 l0_0 x7_1).f2)] 67 (0, 0)) (bk BK253) hg (Kd.R_away HO_252000.out (fun _ hk => hk)))
           replace HB := AM (hb)
           have HO260 := AM (ho)
           clear HO_252000
           clear ho hb hg hat
           obtain ⟨Ao48, co48, eo48⟩ := Kd.R_slice HO260.out
           (first | subst eo48 | (injection eo48 with f1_ f2_ f3_; have f4_ := f1_.symm; have f5_ := f3_.symm; clear f1_ f2_ f3_; subst f4_; subst f5_))
           refine hK.out _ _ ⟨bc BK251 0, bc BK253 0, bc BK253 1, bc BK253 2⟩ (fun hHeld => ?_)
           clear hK K
           refine norm_ (a' := ?_) ?_ ?_
           rotate_left
           ·show Act.put _ (some 60) _ = _
            simp only [Act.put, qT, q0, qS, i64_w, i32_w]
            rfl
           refine pure_ (i := 12) (N := some 61) (v := ?_) (a' := ?_) #[true, true, true, true, true, true, true, true, true, true, true, true, true, false] rfl rfl (any_of HT_.out (by kernel_rfl)) (fun _ _ _ h => h) (Or.inl ⟨by rfl, ?_⟩) ?_ ?_
           rotate_left
           ·intro w'
            go_simp
            with_reducible rfl
           rotate_left
           ·simp only [Act.put, qT, q0, qS, i64_w, i32_w]
            rfl
           refine last_ (i := 13) (N := none) #[true, true, true, true, true, true, true, true, true, true, true, true, true, true] rfl rfl (one_of HT_.out (by kernel_rfl)) (by decide) (fun K hK => ?_)
           have hs49 : w47.cell? ⟨gb251, 0, none⟩ = some (u252000) := bc BK251 0
           have hfs49 := bz BK251 0
           have hns49_0 := NB248_251.out
           have hns49_1 := NB249_251.out
           have hns49_3 := NB253_251.out
           have hms49_0 := NB251_248.out
           have hms49_1 := NB251_249.out
           have hms49_3 := NB251_253.out
           refine skip_ (w1 := ?_) (by rfl) rfl ?_ ?_
           rotate_left
           ·go_simp
            rfl
           refine hK.out _ _ ?_
           clear hK K
           refine done_ (done_of HT_.out (by kernel_rfl)) ?_
           try go_wp2
           go_roundg kj15
           case measure => have := HK1.out; have := HJ15.out; omega
           case rel => exact ⟨(wrap64 (x7_1 + 1)), (y258), (.slice Ao48 y258.length co48), sf, H', ⟨by have := HK1.out; have := HJ15.out; omega⟩, ⟨by exact Kd.R_mono (Kd.R_far (p := ⟨gb251, 0, none⟩) (Kd.R_types HO260.out BK251.out (by decide)) (fun _ hk => hk.2) (.slice Ao48 y258.length co48)) (fun _ hk => trivial)⟩, ⟨be⟩, ⟨be⟩, ⟨by (with_reducible repeat first | apply aN | apply aD | apply aA); refine blk_put (cs := #[u252000]) ?_ 0 _ rfl; exact bk BK251⟩, ⟨hS⟩⟩
          rw [if_neg c41] at H
          exact absurd H (by simp)
         rw [if_neg c40] at H
         exact absurd H (by simp)
        rw [if_neg c39] at H
        exact absurd H (by simp)
       rw [if_neg c26] at H
       have c26b0 : decide ((((rd_T67 l0_0 x7_1).f1).size : Int) < x9_15) = false := decide_eq_false c26
       clear c26
       by_cases c50 : x9_15 < ((rd_T67 l0_0 x7_1).f2)
       ·rw [if_pos c50] at H
        have c50b0 : decide (x9_15 < ((rd_T67 l0_0 x7_1).f2)) = true := decide_eq_true c50
        clear c50
        by_cases c51 : 0 ≤ ((rd_T67 l0_0 x7_1).f2)
        ·rw [if_pos c51] at H
         have c51b0 := eq_true c51
         have c51b1 : decide (0 ≤ ((rd_T67 l0_0 x7_1).f2)) = true := decide_eq_true c51
         clear c51
         by_cases c52 : ((rd_T67 l0_0 x7_1).f2) ≤ (((rd_T67 l0_0 x7_1).f1).size : Int)
         ·rw [if_pos c52] at H
          have c52b0 := eq_true c52
          have c52b1 : decide (((rd_T67 l0_0 x7_1).f2) ≤ (((rd_T67 l0_0 x7_1).f1).size : Int)) = true := decide_eq_true c52
          clear c52
          by_cases c53 : x252000_1.length < 3518437208883
          ·rw [if_pos c53] at H
           have LMc53 := AM c53
           clear c53
           obtain ⟨y261, hy261⟩ : ∃ y_ : List (S67), y_ = (x252000_1 ++ [(⟨((rd_T67 l0_0 x7_1).f0), ((rd_T67 l0_0 x7_1).f1).extract 0 (((rd_T67 l0_0 x7_1).f2) : Int).toNat, ((rd_T67 l0_0 x7_1).f2)⟩ : S67)]) := ⟨_, rfl⟩
           replace H : (spec_LoseDisk.l0 kj15 l1 (wrap64 (x7_1 + 1)) l0_0 y261) = some (r1, r2) := by first | (rw [hy261]; with_reducible exact H) | (have H2_ := (Option.bind_some _ _).symm.trans H; rw [hy261]; with_reducible exact H2_) | (have H2_ := (Option.bind_some _ _).symm.trans H; with_reducible exact H2_) | with_reducible exact H | (rw [hy261]; exact H) | exact H
           have Ny261 := AM hy261
           clear hy261
           have H' := AM H
           clear H
           have hnb54 := NB253_248.out
           have hnc54 := NB248_253.out
           have hnb55 := NB253_249.out
           have hnc55 := NB249_253.out
           have hnb56 := NB253_251.out
           have hnc56 := NB251_253.out
           have hcz57_0 := bv BK253 0 (.string ((rd_T67 l0_0 x7_1).f0))
           have hcz57_1 := bv BK253 1 (.string ((rd_T67 l0_0 x7_1).f1))
           have hcz57_2 := bv BK253 2 (.int .i64 ((rd_T67 l0_0 x7_1).f2))
           have hfz57_0 := bz BK253 0
           have hfz57_1 := bz BK253 1
           have hfz57_2 := bz BK253 2
           try go_wp2
           replace HO_252000 := AM (Kd.R_drew HO_252000.out)
           replace BK248 := AM (blk_drew BK248.out)
           replace BK249 := AM (blk_drew BK249.out)
           replace BK251 := AM (blk_drew BK251.out)
           replace BK253 := AM (blk_drew BK253.out)
           replace HB := AM (below_drew1 HB.out)
           refine start_ (n := 14) (S := fun w' => w'.cell? ⟨gb251, 0, none⟩ = some (u252000) ∧ w'.cell? ⟨gb253, 0, none⟩ = some (.string ((rd_T67 l0_0 x7_1).f0)) ∧ w'.cell? ⟨gb253, 1, none⟩ = some (.string ((rd_T67 l0_0 x7_1).f1)) ∧ w'.cell? ⟨gb253, 2, none⟩ = some (.int .i64 ((rd_T67 l0_0 x7_1).f2))) (ds := [13]) #[false, false, false, false, false, false, false, false, false, false, false, false, false, false] (by kernel_rfl) rfl rfl ⟨bc BK251 0, bc BK253 0, bc BK253 1, bc BK253 2⟩ (fun hHeld => ?_); refine with_tabW spec_LoseDisk.tab15 spec_LoseDisk.bits15 (fun HT_ HW_ => ?_)
           generalize wc.drew = w58 at HO_252000 BK248 BK249 BK251 BK253 HB hHeld ⊢
           refine pure_ (i := 0) (N := some 49) (v := ?_) (a' := ?_) #[true, false, false, false, false, false, false, false, false, false, false, false, false, false] rfl rfl (any_of HT_.out (by kernel_rfl)) (fun _ _ _ h => h) (Or.inl ⟨by rfl, ?_⟩) ?_ ?_
           rotate_left
           ·intro w'
            go_simp
            with_reducible rfl
           rotate_left
           ·simp only [Act.put, qT, q0, qS, i64_w, i32_w]
            rfl
           refine pure_ (i := 2) (N := some 51) (v := ?_) (a' := ?_) #[true, false, true, false, false, false, false, false, false, false, false, false, false, false] rfl rfl (any_of HT_.out (by kernel_rfl)) (fun _ _ _ h => h) (Or.inl ⟨by rfl, ?_⟩) ?_ ?_
           rotate_left
           ·intro w'
            go_simp
            with_reducible rfl
           rotate_left
           ·simp only [Act.put, qT, q0, qS, i64_w, i32_w]
            rfl
           refine pure_ (i := 4) (N := some 53) (v := ?_) (a' := ?_) #[true, false, true, false, true, false, false, false, false, false, false, false, false, false] rfl rfl (any_of HT_.out (by kernel_rfl)) (fun _ _ _ h => h) (Or.inl ⟨by rfl, ?_⟩) ?_ ?_
           rotate_left
           ·intro w'
            go_simp
            with_reducible rfl
           rotate_left
           ·simp only [Act.put, qT, q0, qS, i64_w, i32_w]
            rfl
           refine pure_ (i := 6) (N := some 55) (v := ?_) (a' := ?_) #[true, false, true, false, true, false, true, false, false, false, false, false, false, false] rfl rfl (any_of HT_.out (by kernel_rfl)) (fun _ _ _ h => h) (Or.inl ⟨by rfl, ?_⟩) ?_ ?_
           rotate_left
           ·intro w'
            go_simp
            with_reducible rfl
           rotate_left
           ·simp only [Act.put, qT, q0, qS, i64_w, i32_w]
            rfl
           refine pure_ (i := 8) (N := some 57) (v := ?_) (a' := ?_) #[true, false, true, false, true, false, true, false, true, false, false, false, false, false] rfl rfl (any_of HT_.out (by kernel_rfl)) (fun _ _ _ h => h) (Or.inl ⟨by rfl, ?_⟩) ?_ ?_
           rotate_left
           ·intro w'
            go_simp
            with_reducible rfl
           rotate_left
           ·simp only [Act.put, qT, q0, qS, i64_w, i32_w]
            rfl
           refine take_ (i := 1) (N := some 50) (v := ?_) (a' := ?_) #[true, true, true, false, true, false, true, false, true, false, false, false, false, false] rfl rfl (take_ofW HT_.out HW_.out (by kernel_rfl)) (fun _ _ _ h => h) (Or.inl ⟨by rfl, ?_⟩) hHeld ?_ ?_
           rotate_left
           ·rintro w' ⟨s0, s1, s2, s3⟩
            go_simp
            with_reducible rfl
           rotate_left
           ·simp only [Act.put, qT, q0, qS, i64_w, i32_w]
            rfl
           refine take_ (i := 3) (N := some 52) (v := ?_) (a' := ?_) #[true, true, true, true, true, false, true, false, true, false, false, false, false, false] rfl rfl (take_ofW HT_.out HW_.out (by kernel_rfl)) (fun _ _ _ h => h) (Or.inl ⟨by rfl, ?_⟩) hHeld ?_ ?_
           rotate_left
           ·rintro w' ⟨s0, s1, s2, s3⟩
            go_simp
            with_reducible rfl
           rotate_left
           ·simp only [Act.put, qT, q0, qS, i64_w, i32_w]
            rfl
           refine take_ (i := 5) (N := some 54) (v := ?_) (a' := ?_) #[true, true, true, true, true, true, true, false, true, false, false, false, false, false] rfl rfl (take_ofW HT_.out HW_.out (by kernel_rfl)) (fun _ _ _ h => h) (Or.inl ⟨by rfl, ?_⟩) hHeld ?_ ?_
           rotate_left
           ·rintro w' ⟨s0, s1, s2, s3⟩
            go_simp
            with_reducible rfl
           rotate_left
           ·simp only [Act.put, qT, q0, qS, i64_w, i32_w]
            rfl
           refine pure_ (i := 7) (N := some 56) (v := ?_) (a' := ?_) #[true, true, true, true, true, true, true, true, true, false, false, false, false, false] rfl rfl (any_of HT_.out (by kernel_rfl)) (fun _ _ _ h => h) (Or.inl ⟨by rfl, ?_⟩) ?_ ?_
           rotate_left
           ·intro w'
            go_simp
            with_reducible rfl
           rotate_left
           ·simp only [Act.put, qT, q0, qS, i64_w, i32_w]
            rfl
           refine pure_ (i := 9) (N := some 58) (v := ?_) (a' := ?_) #[true, true, true, true, true, true, true, true, true, true, false, false, false, false] rfl rfl (any_of HT_.out (by kernel_rfl)) (fun _ _ _ h => h) (Or.inl ⟨by rfl, ?_⟩) ?_ ?_
           rotate_left
           ·intro w'
            go_simp
            with_reducible rfl
           rotate_left
           ·simp only [Act.put, qT, q0, qS, i64_w, i32_w]
            rfl
           refine one_ (i := 10) (N := some 59) #[true, true, true, true, true, true, true, true, true, true, true, false, false, false] rfl rfl (one_of HT_.out (by kernel_rfl)) (by decide) (fun K hK => ?_)
           refine value_ (w1 := ?_) (v := ?_) (by rfl) rfl ?_ ?_
           rotate_left 2
           ·go_simp
            constructor
            ·rfl
            rfl
           refine hK.out _ _ ⟨(blk_cell (blk_alloc BK251.out _) 0).trans rfl, (blk_cell (blk_alloc BK253.out _) 0).trans rfl, (blk_cell (blk_alloc BK253.out _) 1).trans rfl, (blk_cell (blk_alloc BK253.out _) 2).trans rfl⟩ (fun hHeld => ?_)
           clear hK K
           refine norm_ (a' := ?_) ?_ ?_
           rotate_left
           ·show Act.put _ (some 59) _ = _
            simp only [Act.put, qT, q0, qS, i64_w, i32_w]
            rfl
           refine one_ (i := 11) (N := some 60) #[true, true, true, true, true, true, true, true, true, true, true, true, false, false] rfl rfl (one_of HT_.out (by kernel_rfl)) (by decide) (fun K hK => ?_)
           refine Kd.R_append_step k67 (w0 := w) w.heap.size (by rfl) (.tmp 50) (.tmp 59) 28 67 (.agg #[(.string ⟨#[]⟩), (.string ⟨#[]⟩), (.int .i64 0)]) 40 rfl Try.underlying28 info67 rfl (by decide) (by omega) u252000 x252000_1 (⟨((rd_T67 l0_0 x7_1).f0), ((rd_T67 l0_0 x7_1).f1).extract 0 (((rd_T67 l0_0 x7_1).f2) : Int).toNat, ((rd_T67 l0_0 x7_1).f2)⟩ : S67) [.string ((rd_T67 l0_0 x7_1).f0), .string (((rd_T67 l0_0 x7_1).f1).extract 0 (((rd_T67 l0_0 x7_1).f2) : Int).toNat), .int .i64 ((rd_T67 l0_0 x7_1).f2)] (fun k_ => k_ ≠ gb253) (fun _ => False) rfl rfl ?aP (fun _ hk => hk.elim) ?aF ?aO ?aB ?aS ?aL ?_
           (case aP => exact k67_mkM _ _ _ (⟨((rd_T67 l0_0 x7_1).f0), ((rd_T67 l0_0 x7_1).f1).extract 0 (((rd_T67 l0_0 x7_1).f2) : Int).toNat, ((rd_T67 l0_0 x7_1).f2)⟩ : S67))
           (case aB => exact (hS))
           (case aF => exact (fun k_ hk => Kd.freshB (g := gb253) (o := .cells #[.string ((rd_T67 l0_0 x7_1).f0), .string ((rd_T67 l0_0 x7_1).f1), .int .i64 ((rd_T67 l0_0 x7_1).f2)] 67 (0, 0)) (bk BK253) k_ hk))
           (case aO => exact (by exact HO_252000.out))
           (case aS => exact (below_size (hS)))
           (case aL => have := LMc53.out; omega)
           intro v262 w59 ho hb hg hat
           rw [← Ny261.out] at ho
           replace BK248 := AM (blk_grown (g := gb248) (o := .cells #[.slice (some ad252) l0_0.length c0_0] 30 (0, 0)) (bk BK248) hg (Kd.R_ne HO_252000.out BK248.out (by decide)))
           replace BK249 := AM (blk_grown (g := gb249) (o := .cells #[.slice none 0 0] 30 (0, 0)) (bk BK249) hg (Kd.R_ne HO_252000.out BK249.out (by decide)))
           replace BK251 := AM (blk_grown (g := gb251) (o := .cells #[u252000] 30 (0, 0)) (bk BK251) hg (Kd.R_ne HO_252000.out BK251.out (by decide)))
           replace BK253 := AM (blk_grown (g := gb253) (o := .cells #[.string ((rd_T67 l0_0 x7_1).f0), .string ((rd_T67 l0_0 x7_1).f1), .int .i64 ((rd_T67 l0_0 x7_1).f2)] 67 (0, 0)) (bk BK253) hg (Kd.R_away HO_252000.out (fun _ hk => hk)))
           replace HB := AM (hb)
           have HO263 := AM (ho)
           clear HO_252000
           clear ho hb hg hat
           obtain ⟨Ao60, co60, eo60⟩ := Kd.R_slice HO263.out
           (first | subst eo60 | (injection eo60 with f1_ f2_ f3_; have f4_ := f1_.symm; have f5_ := f3_.symm; clear f1_ f2_ f3_; subst f4_; subst f5_))
           refine hK.out _ _ ⟨bc BK251 0, bc BK253 0, bc BK253 1, bc BK253 2⟩ (fun hHeld => ?_)
           clear hK K
           refine norm_ (a' := ?_) ?_ ?_
           rotate_left
           ·show Act.put _ (some 60) _ = _
            simp only [Act.put, qT, q0, qS, i64_w, i32_w]
            rfl
           refine pure_ (i := 12) (N := some 61) (v := ?_) (a' := ?_) #[true, true, true, true, true, true, true, true, true, true, true, true, true, false] rfl rfl (any_of HT_.out (by kernel_rfl)) (fun _ _ _ h => h) (Or.inl ⟨by rfl, ?_⟩) ?_ ?_
           rotate_left
           ·intro w'
            go_simp
            with_reducible rfl
           rotate_left
           ·simp only [Act.put, qT, q0, qS, i64_w, i32_w]
            rfl
           refine last_ (i := 13) (N := none) #[true, true, true, true, true, true, true, true, true, true, true, true, true, true] rfl rfl (one_of HT_.out (by kernel_rfl)) (by decide) (fun K hK => ?_)
           have hs61 : w59.cell? ⟨gb251, 0, none⟩ = some (u252000) := bc BK251 0
           have hfs61 := bz BK251 0
           have hns61_0 := NB248_251.out
           have hns61_1 := NB249_251.out
           have hns61_3 := NB253_251.out
           have hms61_0 := NB251_248.out
           have hms61_1 := NB251_249.out
           have hms61_3 := NB251_253.out
           refine skip_ (w1 := ?_) (by rfl) rfl ?_ ?_
           rotate_left
           ·go_simp
            rfl
           refine hK.out _ _ ?_
           clear hK K
           refine done_ (done_of HT_.out (by kernel_rfl)) ?_
           try go_wp2
           go_roundg kj15
           case measure => have := HK1.out; have := HJ15.out; omega
           case rel => exact ⟨(wrap64 (x7_1 + 1)), (y261), (.slice Ao60 y261.length co60), sf, H', ⟨by have := HK1.out; have := HJ15.out; omega⟩, ⟨by exact Kd.R_mono (Kd.R_far (p := ⟨gb251, 0, none⟩) (Kd.R_types HO263.out BK251.out (by decide)) (fun _ hk => hk.2) (.slice Ao60 y261.length co60)) (fun _ hk => trivial)⟩, ⟨be⟩, ⟨be⟩, ⟨by (with_reducible repeat first | apply aN | apply aD | apply aA); refine blk_put (cs := #[u252000]) ?_ 0 _ rfl; exact bk BK251⟩, ⟨hS⟩⟩
          rw [if_neg c53] at H
          exact absurd H (by simp)
         rw [if_neg c52] at H
         exact absurd H (by simp)
        rw [if_neg c51] at H
        exact absurd H (by simp)
       rw [if_neg c50] at H
       have c50b0 : decide (x9_15 < ((rd_T67 l0_0 x7_1).f2)) = false := decide_eq_false c50
       clear c50
       by_cases c62 : 0 ≤ x9_15
       ·rw [if_pos c62] at H
        have c62b0 := eq_true c62
        have c62b1 : decide (0 ≤ x9_15) = true := decide_eq_true c62
        clear c62
        by_cases c63 : x9_15 ≤ (((rd_T67 l0_0 x7_1).f1).size : Int)
        ·rw [if_pos c63] at H
         have c63b0 := eq_true c63
         have c63b1 : decide (x9_15 ≤ (((rd_T67 l0_0 x7_1).f1).size : Int)) = true := decide_eq_true c63
         clear c63
         by_cases c64 : x252000_1.length < 3518437208883
         ·rw [if_pos c64] at H
          have LMc64 := AM c64
          clear c64
          obtain ⟨y264, hy264⟩ : ∃ y_ : List (S67), y_ = (x252000_1 ++ [(⟨((rd_T67 l0_0 x7_1).f0), ((rd_T67 l0_0 x7_1).f1).extract 0 (x9_15 : Int).toNat, x9_15⟩ : S67)]) := ⟨_, rfl⟩
          replace H : (spec_LoseDisk.l0 kj15 l1 (wrap64 (x7_1 + 1)) l0_0 y264) = some (r1, r2) := by first | (rw [hy264]; with_reducible exact H) | (have H2_ := (Option.bind_some _ _).symm.trans H; rw [hy264]; with_reducible exact H2_) | (have H2_ := (Option.bind_some _ _).symm.trans H; with_reducible exact H2_) | with_reducible exact H | (rw [hy264]; exact H) | exact H
          have Ny264 := AM hy264
          clear hy264
          have H' := AM H
          clear H
          have hnb65 := NB253_248.out
          have hnc65 := NB248_253.out
          have hnb66 := NB253_249.out
          have hnc66 := NB249_253.out
          have hnb67 := NB253_251.out
          have hnc67 := NB251_253.out
          have hcz68_0 := bv BK253 0 (.string ((rd_T67 l0_0 x7_1).f0))
          have hcz68_1 := bv BK253 1 (.string ((rd_T67 l0_0 x7_1).f1))
          have hcz68_2 := bv BK253 2 (.int .i64 ((rd_T67 l0_0 x7_1).f2))
          have hfz68_0 := bz BK253 0
          have hfz68_1 := bz BK253 1
          have hfz68_2 := bz BK253 2
          try go_wp2
          replace HO_252000 := AM (Kd.R_drew HO_252000.out)
          replace BK248 := AM (blk_drew BK248.out)
          replace BK249 := AM (blk_drew BK249.out)
          replace BK251 := AM (blk_drew BK251.out)
          replace BK253 := AM (blk_drew BK253.out)
          replace HB := AM (below_drew1 HB.out)
          refine start_ (n := 14) (S := fun w' => w'.cell? ⟨gb251, 0, none⟩ = some (u252000) ∧ w'.cell? ⟨gb253, 0, none⟩ = some (.string ((rd_T67 l0_0 x7_1).f0)) ∧ w'.cell? ⟨gb253, 1, none⟩ = some (.string ((rd_T67 l0_0 x7_1).f1)) ∧ w'.cell? ⟨gb253, 2, none⟩ = some (.int .i64 ((rd_T67 l0_0 x7_1).f2))) (ds := [13]) #[false, false, false, false, false, false, false, false, false, false, false, false, false, false] (by kernel_rfl) rfl rfl ⟨bc BK251 0, bc BK253 0, bc BK253 1, bc BK253 2⟩ (fun hHeld => ?_); refine with_tabW spec_LoseDisk.tab15 spec_LoseDisk.bits15 (fun HT_ HW_ => ?_)
          generalize wc.drew = w69 at HO_252000 BK248 BK249 BK251 BK253 HB hHeld ⊢
          refine pure_ (i := 0) (N := some 49) (v := ?_) (a' := ?_) #[true, false, false, false, false, false, false, false, false, false, false, false, false, false] rfl rfl (any_of HT_.out (by kernel_rfl)) (fun _ _ _ h => h) (Or.inl ⟨by rfl, ?_⟩) ?_ ?_
          rotate_left
          ·intro w'
           go_simp
           with_reducible rfl
          rotate_left
          ·simp only [Act.put, qT, q0, qS, i64_w, i32_w]
           rfl
          refine pure_ (i := 2) (N := some 51) (v := ?_) (a' := ?_) #[true, false, true, false, false, false, false, false, false, false, false, false, false, false] rfl rfl (any_of HT_.out (by kernel_rfl)) (fun _ _ _ h => h) (Or.inl ⟨by rfl, ?_⟩) ?_ ?_
          rotate_left
          ·intro w'
           go_simp
           with_reducible rfl
          rotate_left
          ·simp only [Act.put, qT, q0, qS, i64_w, i32_w]
           rfl
          refine pure_ (i := 4) (N := some 53) (v := ?_) (a' := ?_) #[true, false, true, false, true, false, false, false, false, false, false, false, false, false] rfl rfl (any_of HT_.out (by kernel_rfl)) (fun _ _ _ h => h) (Or.inl ⟨by rfl, ?_⟩) ?_ ?_
          rotate_left
          ·intro w'
           go_simp
           with_reducible rfl
          rotate_left
          ·simp only [Act.put, qT, q0, qS, i64_w, i32_w]
           rfl
          refine pure_ (i := 6) (N := some 55) (v := ?_) (a' := ?_) #[true, false, true, false, true, false, true, false, false, false, false, false, false, false] rfl rfl (any_of HT_.out (by kernel_rfl)) (fun _ _ _ h => h) (Or.inl ⟨by rfl, ?_⟩) ?_ ?_
          rotate_left
          ·intro w'
           go_simp
           with_reducible rfl
          rotate_left
          ·simp only [Act.put, qT, q0, qS, i64_w, i32_w]
           rfl
          refine pure_ (i := 8) (N := some 57) (v := ?_) (a' := ?_) #[true, false, true, false, true, false, true, false, true, false, false, false, false, false] rfl rfl (any_of HT_.out (by kernel_rfl)) (fun _ _ _ h => h) (Or.inl ⟨by rfl, ?_⟩) ?_ ?_
          rotate_left
          ·intro w'
           go_simp
           with_reducible rfl
          rotate_left
          ·simp only [Act.put, qT, q0, qS, i64_w, i32_w]
           rfl
          refine take_ (i := 1) (N := some 50) (v := ?_) (a' := ?_) #[true, true, true, false, true, false, true, false, true, false, false, false, false, false] rfl rfl (take_ofW HT_.out HW_.out (by kernel_rfl)) (fun _ _ _ h => h) (Or.inl ⟨by rfl, ?_⟩) hHeld ?_ ?_
          rotate_left
          ·rintro w' ⟨s0, s1, s2, s3⟩
           go_simp
           with_reducible rfl
          rotate_left
          ·simp only [Act.put, qT, q0, qS, i64_w, i32_w]
           rfl
          refine take_ (i := 3) (N := some 52) (v := ?_) (a' := ?_) #[true, true, true, true, true, false, true, false, true, false, false, false, false, false] rfl rfl (take_ofW HT_.out HW_.out (by kernel_rfl)) (fun _ _ _ h => h) (Or.inl ⟨by rfl, ?_⟩) hHeld ?_ ?_
          rotate_left
          ·rintro w' ⟨s0, s1, s2, s3⟩
           go_simp
           with_reducible rfl
          rotate_left
          ·simp only [Act.put, qT, q0, qS, i64_w, i32_w]
           rfl
          refine take_ (i := 5) (N := some 54) (v := ?_) (a' := ?_) #[true, true, true, true, true, true, true, false, true, false, false, false, false, false] rfl rfl (take_ofW HT_.out HW_.out (by kernel_rfl)) (fun _ _ _ h => h) (Or.inl ⟨by rfl, ?_⟩) hHeld ?_ ?_
          rotate_left
          ·rintro w' ⟨s0, s1, s2, s3⟩
           go_simp
           with_reducible rfl
          rotate_left
          ·simp only [Act.put, qT, q0, qS, i64_w, i32_w]
           rfl
          refine pure_ (i := 7) (N := some 56) (v := ?_) (a' := ?_) #[true, true, true, true, true, true, true, true, true, false, false, false, false, false] rfl rfl (any_of HT_.out (by kernel_rfl)) (fun _ _ _ h => h) (Or.inl ⟨by rfl, ?_⟩) ?_ ?_
          rotate_left
          ·intro w'
           go_simp
           with_reducible rfl
          rotate_left
          ·simp only [Act.put, qT, q0, qS, i64_w, i32_w]
           rfl
          refine pure_ (i := 9) (N := some 58) (v := ?_) (a' := ?_) #[true, true, true, true, true, true, true, true, true, true, false, false, false, false] rfl rfl (any_of HT_.out (by kernel_rfl)) (fun _ _ _ h => h) (Or.inl ⟨by rfl, ?_⟩) ?_ ?_
          rotate_left
          ·intro w'
           go_simp
           with_reducible rfl
          rotate_left
          ·simp only [Act.put, qT, q0, qS, i64_w, i32_w]
           rfl
          refine one_ (i := 10) (N := some 59) #[true, true, true, true, true, true, true, true, true, true, true, false, false, false] rfl rfl (one_of HT_.out (by kernel_rfl)) (by decide) (fun K hK => ?_)
          refine value_ (w1 := ?_) (v := ?_) (by rfl) rfl ?_ ?_
          rotate_left 2
          ·go_simp
           constructor
           ·rfl
           rfl
          refine hK.out _ _ ⟨(blk_cell (blk_alloc BK251.out _) 0).trans rfl, (blk_cell (blk_alloc BK253.out _) 0).trans rfl, (blk_cell (blk_alloc BK253.out _) 1).trans rfl, (blk_cell (blk_alloc BK253.out _) 2).trans rfl⟩ (fun hHeld => ?_)
          clear hK K
          refine norm_ (a' := ?_) ?_ ?_
          rotate_left
          ·show Act.put _ (some 59) _ = _
           simp only [Act.put, qT, q0, qS, i64_w, i32_w]
           rfl
          refine one_ (i := 11) (N := some 60) #[true, true, true, true, true, true, true, true, true, true, true, true, false, false] rfl rfl (one_of HT_.out (by kernel_rfl)) (by decide) (fun K hK => ?_)
          refine Kd.R_append_step k67 (w0 := w) w.heap.size (by rfl) (.tmp 50) (.tmp 59) 28 67 (.agg #[(.string ⟨#[]⟩), (.string ⟨#[]⟩), (.int .i64 0)]) 40 rfl Try.underlying28 info67 rfl (by decide) (by omega) u252000 x252000_1 (⟨((rd_T67 l0_0 x7_1).f0), ((rd_T67 l0_0 x7_1).f1).extract 0 (x9_15 : Int).toNat, x9_15⟩ : S67) [.string ((rd_T67 l0_0 x7_1).f0), .string (((rd_T67 l0_0 x7_1).f1).extract 0 (x9_15 : Int).toNat), .int .i64 x9_15] (fun k_ => k_ ≠ gb253) (fun _ => False) rfl rfl ?aP (fun _ hk => hk.elim) ?aF ?aO ?aB ?aS ?aL ?_
          (case aP => exact k67_mkM _ _ _ (⟨((rd_T67 l0_0 x7_1).f0), ((rd_T67 l0_0 x7_1).f1).extract 0 (x9_15 : Int).toNat, x9_15⟩ : S67))
          (case aB => exact (hS))
          (case aF => exact (fun k_ hk => Kd.freshB (g := gb253) (o := .cells #[.string ((rd_T67 l0_0 x7_1).f0), .string ((rd_T67 l0_0 x7_1).f1), .int .i64 ((rd_T67 l0_0 x7_1).f2)] 67 (0, 0)) (bk BK253) k_ hk))
          (case aO => exact (by exact HO_252000.out))
          (case aS => exact (below_size (hS)))
          (case aL => have := LMc64.out; omega)
          intro v265 w70 ho hb hg hat
          rw [← Ny264.out] at ho
          replace BK248 := AM (blk_grown (g := gb248) (o := .cells #[.slice (some ad252) l0_0.length c0_0] 30 (0, 0)) (bk BK248) hg (Kd.R_ne HO_252000.out BK248.out (by decide)))
          replace BK249 := AM (blk_grown (g := gb249) (o := .cells #[.slice none 0 0] 30 (0, 0)) (bk BK249) hg (Kd.R_ne HO_252000.out BK249.out (by decide)))
          replace BK251 := AM (blk_grown (g := gb251) (o := .cells #[u252000] 30 (0, 0)) (bk BK251) hg (Kd.R_ne HO_252000.out BK251.out (by decide)))
          replace BK253 := AM (blk_grown (g := gb253) (o := .cells #[.string ((rd_T67 l0_0 x7_1).f0), .string ((rd_T67 l0_0 x7_1).f1), .int .i64 ((rd_T67 l0_0 x7_1).f2)] 67 (0, 0)) (bk BK253) hg (Kd.R_away HO_252000.out (fun _ hk => hk)))
          replace HB := AM (hb)
          have HO266 := AM (ho)
          clear HO_252000
          clear ho hb hg hat
          obtain ⟨Ao71, co71, eo71⟩ := Kd.R_slice HO266.out
          (first | subst eo71 | (injection eo71 with f1_ f2_ f3_; have f4_ := f1_.symm; have f5_ := f3_.symm; clear f1_ f2_ f3_; subst f4_; subst f5_))
          refine hK.out _ _ ⟨bc BK251 0, bc BK253 0, bc BK253 1, bc BK253 2⟩ (fun hHeld => ?_)
          clear hK K
          refine norm_ (a' := ?_) ?_ ?_
          rotate_left
          ·show Act.put _ (some 60) _ = _
           simp only [Act.put, qT, q0, qS, i64_w, i32_w]
           rfl
          refine pure_ (i := 12) (N := some 61) (v := ?_) (a' := ?_) #[true, true, true, true, true, true, true, true, true, true, true, true, true, false] rfl rfl (any_of HT_.out (by kernel_rfl)) (fun _ _ _ h => h) (Or.inl ⟨by rfl, ?_⟩) ?_ ?_
          rotate_left
          ·intro w'
           go_simp
           with_reducible rfl
          rotate_left
          ·simp only [Act.put, qT, q0, qS, i64_w, i32_w]
           rfl
          refine last_ (i := 13) (N := none) #[true, true, true, true, true, true, true, true, true, true, true, true, true, true] rfl rfl (one_of HT_.out (by kernel_rfl)) (by decide) (fun K hK => ?_)
          have hs72 : w70.cell? ⟨gb251, 0, none⟩ = some (u252000) := bc BK251 0
          have hfs72 := bz BK251 0
          have hns72_0 := NB248_251.out
          have hns72_1 := NB249_251.out
          have hns72_3 := NB253_251.out
          have hms72_0 := NB251_248.out
          have hms72_1 := NB251_249.out
          have hms72_3 := NB251_253.out
          refine skip_ (w1 := ?_) (by rfl) rfl ?_ ?_
          rotate_left
          ·go_simp
           rfl
          refine hK.out _ _ ?_
          clear hK K
          refine done_ (done_of HT_.out (by kernel_rfl)) ?_
          try go_wp2
          go_roundg kj15
          case measure => have := HK1.out; have := HJ15.out; omega
          case rel => exact ⟨(wrap64 (x7_1 + 1)), (y264), (.slice Ao71 y264.length co71), sf, H', ⟨by have := HK1.out; have := HJ15.out; omega⟩, ⟨by exact Kd.R_mono (Kd.R_far (p := ⟨gb251, 0, none⟩) (Kd.R_types HO266.out BK251.out (by decide)) (fun _ hk => hk.2) (.slice Ao71 y264.length co71)) (fun _ hk => trivial)⟩, ⟨be⟩, ⟨be⟩, ⟨by (with_reducible repeat first | apply aN | apply aD | apply aA); refine blk_put (cs := #[u252000]) ?_ 0 _ rfl; exact bk BK251⟩, ⟨hS⟩⟩
         rw [if_neg c64] at H
         exact absurd H (by simp)
        rw [if_neg c63] at H
        exact absurd H (by simp)
       rw [if_neg c62] at H
       exact absurd H (by simp)
    rw [if_neg c15] at H
    exact absurd H (by simp)
   rw [if_neg c14] at H
   have c14b0 : decide (x7_1 < (l0_0.length : Int)) = false := decide_eq_false c14
   clear c14
   simp only [Option.some.injEq, Prod.mk.injEq] at H
   obtain ⟨rfl, rfl⟩ := H
   have hnb73 := NB248_249.out
   have hnc73 := NB249_248.out
   have hnb74 := NB248_251.out
   have hnc74 := NB251_248.out
   have hcz75_0 := bv BK248 0 (.slice A0_0 l0_0.length c0_0)
   have hfz75_0 := bz BK248 0
   have hnb76 := NB251_249.out
   have hnc76 := NB249_251.out
   have hcz77_0 := bv BK251 0 (u252000)
   have hfz77_0 := bz BK251 0
   obtain ⟨Ao78, co78, eo78⟩ := Kd.R_slice HO_252000.out
   subst eo78
   have hcz79_0 := bv BK249 0 (.slice none 0 0)
   have hfz79_0 := bz BK249 0
   go_wp2
   refine bodyPost_ret (results_ct rfl _ _ gb249 30 #[.slice Ao78 x252000_1.length co78] (0, 0) _ rfl (by (with_reducible repeat first | apply aN | apply aD | apply aA); refine blk_put (cs := #[.slice none 0 0]) ?_ 0 _ rfl; exact bk BK249) Try.underlying30 rfl (by kernel_rfl)) rfl ?_
   exact ⟨_, er, by exact Kd.R_mono (Kd.R_far (p := ⟨gb249, 0, none⟩) (Kd.R_types HO_252000.out BK249.out (by decide)) (fun _ hk => hk.2) (.slice Ao78 x252000_1.length co78)) (fun _ hk => trivial), hS⟩
 replace c4 := Bool.eq_false_iff.mpr c4
 subst c4
 have H1 : (some (([] : List (S67)), false)) = some (r1, r2) := by rw [if_neg (show ¬ (false = true) by decide)] at H; exact H
 clear H
 have H := H1
 clear H1
 simp only [Option.some.injEq, Prod.mk.injEq] at H
 obtain ⟨rfl, rfl⟩ := H
 go_enter Try.func56, Try.ntmps56
 go_wp2_with (first | ((with_reducible refine gd 2 rfl ?_); refine bx (N := 2) (cs := #[.slice A0_0 l0_0.length c0_0]) (t := 30) ?_; intro gb248 hg w80 hbox hb; have BK248 := AM (hbox); have GW248 := AM (bs hg HB); have GE248 := AM (bs hg HB); replace HB := bq HB hb; clear hb hbox hg) | ((with_reducible refine gd 4 rfl ?_); refine bx (N := 4) (cs := #[.slice none 0 0]) (t := 30) ?_; intro gb249 hg w81 hbox hb; have BK249 := AM (hbox); have GW249 := AM (bt hg hS); have GE249 := AM (bt hg hS); replace HB := AM (below_step (hS) hb); have NB248_249 := AM (nl hg (bk BK248)); have NB249_248 := AM (ng hg (bk BK248)); replace BK248 := bw BK248 hb; clear hb hbox hg; have hnb82 := NB248_249.out; have hnc82 := NB249_248.out; have hcz83_0 := bv BK248 0 (.slice A0_0 l0_0.length c0_0); have hfz83_0 := bz BK248 0) | ((with_reducible refine gc 41 rfl ?_); refine goesL_ (some 11) rfl rfl Try.func41 (by kernel_rfl) rfl #[.agg #[.slice A0_0 l0_0.length c0_0]] rfl am ?_; (with_reducible refine (spec_DiskOk.calls k _ _ l0_0 false _ ?side1 ?side2 A3.out).mono ?_); (case side1 => repeat (first | exact (Kd.C_below HR0_0.out HB.out) | (with_reducible first | refine cA ?_ _ | refine cN ?_ _ | refine cD ?_))); (case side2 => exact HC0_0.out); rintro e w84 ⟨rfl, hb⟩; refine ⟨_, rfl, ?_⟩; replace BK248 := bw BK248 hb; replace BK249 := bw BK249 hb; replace HB := AM (below_step (hS) hb); (try clear hb); have hcz85_0 := bv BK249 0 (.slice none 0 0); have hfz85_0 := bz BK249 0))
 refine bodyPost_ret (results_ct rfl _ _ gb249 30 #[.slice none 0 0] (0, 0) _ rfl (by (with_reducible repeat first | apply aN | apply aD | apply aA); refine blk_put (cs := #[.slice none 0 0]) ?_ 0 _ rfl; exact bk BK249) Try.underlying30 rfl (by kernel_rfl)) rfl ?_
 exact ⟨_, er, by first | exact Kd.R_nil _ _ _ _ _ | exact Kd.N_nil _ _ _ _ _ | exact Kd.V_nil _ _ _ _ _ | exact Kd.Q_nil _ _ _ _ _ | exact Kd.S_nil _ _ _ _ _, hS⟩

end Go.Proofs.Ytnkldnkolcighaa.XFnExactCutActs
