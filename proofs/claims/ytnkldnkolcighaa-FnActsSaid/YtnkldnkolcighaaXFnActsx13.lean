/- What the functions of a law compute, and that their calls compute it: written by a program of this session (xprint.py), which turns the kit print at a few places. -/
import Derived.Test.YtnkldnkolcighaaXFnActsx0
import Derived.Test.YtnkldnkolcighaaXFnActsx1
import Derived.Test.YtnkldnkolcighaaXFnActsx6
import Derived.Test.YtnkldnkolcighaaXFnActsx10
import Derived.Test.YtnkldnkolcighaaXFnActsx11
import Derived.Test.YtnkldnkolcighaaXFnActsx12
namespace Go.Proofs.Ytnkldnkolcighaa.XFnActs
open Go.RowKit Go.Proofs.YtnkldnkolcighaaQ.PrintWords Go.Proofs.YtnkldnkolcighaaQ.PrintLast Go.Proofs.YtnkldnkolcighaaQ.PrintMore
attribute [local go_sem] max2_int min2_int max_two min_two max_three min_three max_four min_four str_geq str_gtr   -- for this text's walks alone
set_option linter.unusedVariables false
set_option linter.unusedSimpArgs false

attribute [local go_sem high] eqA67
/-! ### spec_l03Act: function 78 -/
def spec_l03Act.j0 : Nat → List Int → Int → Int → Int → ByteArray → ByteArray → ByteArray → Option (Int × ByteArray × ByteArray × ByteArray × Int × Int)
 | 0, _, _, _, _, _, _, _ => none
 | k + 1, x1000, x1001, x1002, x362000, x362001, x362002, x362003 => (spec_l01Below.f x1000 x1001 x1002 40).bind fun bt371 => (if bt371.1 = 0 then ((spec_l01PickInt.f x1000 bt371.2.1 bt371.2.2 (([0, 5] : List Int))).bind fun bt377 => (some (bt377.1, x362001, x362002, x362003, bt377.2.1, bt377.2.2))) else (if bt371.1 = 1 then ((spec_l01Pick.f x1000 bt371.2.1 bt371.2.2 (([(⟨#[]⟩ : ByteArray), (⟨#[49, 50, 51, 52, 53, 54, 55, 56, 57]⟩ : ByteArray), (⟨#[110, 101, 119]⟩ : ByteArray)] : List ByteArray))).bind fun bt383 => (some (x362000, bt383.1, x362002, x362003, bt383.2.1, bt383.2.2))) else (if bt371.1 = 2 then (some (x362000, x362001, x362002, (⟨#[120]⟩ : ByteArray), bt371.2.1, bt371.2.2)) else (if bt371.1 = 3 then (some (x362000, x362001, (⟨#[120]⟩ : ByteArray), x362003, bt371.2.1, bt371.2.2)) else (some (x362000, x362001, x362002, x362003, bt371.2.1, bt371.2.2))))))
def spec_l03Act.f (k : Nat) (s0_0 : List Int) (s0_1 : Int) (s0_2 : Int) : Option (Int × ByteArray × ByteArray × ByteArray × Int × Int) := (spec_l01Below.f s0_0 s0_1 s0_2 4).bind fun bt355 => ((spec_l03Named.f s0_0 bt355.2.1 bt355.2.2).bind fun bt358 => (if (wrap64 (1 + bt355.1)) = 1 then ((spec_l01Below.f s0_0 bt358.2.1 bt358.2.2 6).bind fun bt362 => ((spec_l01Text.f k s0_0 bt362.2.1 bt362.2.2 bt362.1).bind fun bt365 => (spec_l03Act.j0 k s0_0 bt365.2.1 bt365.2.2 (wrap64 (1 + bt355.1)) bt358.1 bt365.1 (⟨#[]⟩ : ByteArray)))) else (if (wrap64 (1 + bt355.1)) = 3 then ((spec_l03Named.f s0_0 bt358.2.1 bt358.2.2).bind fun bt368 => (spec_l03Act.j0 k s0_0 bt368.2.1 bt368.2.2 (wrap64 (1 + bt355.1)) bt358.1 (⟨#[]⟩ : ByteArray) bt368.1)) else (spec_l03Act.j0 k s0_0 bt358.2.1 bt358.2.2 (wrap64 (1 + bt355.1)) bt358.1 (⟨#[]⟩ : ByteArray) (⟨#[]⟩ : ByteArray)))))
theorem spec_l03Act.mono_l : ∀ k, (∀ y0 y1 y2 y3 y4 y5 y6, LeO (spec_l03Act.j0 k y0 y1 y2 y3 y4 y5 y6) (spec_l03Act.j0 (k + 1) y0 y1 y2 y3 y4 y5 y6))
 | 0 => fun _ _ _ _ _ _ _ r h => by simp [spec_l03Act.j0] at h
 | k + 1 => by
  have ih0 := spec_l03Act.mono_l k
  intro y0 y1 y2 y3 y4 y5 y6
  unfold spec_l03Act.j0
  repeat' first
  | (with_reducible exact LeO.refl _)
  | (with_reducible refine LeO.ite ?_ ?_)
  | (with_reducible refine LeO.bind ?_ (fun _ => ?_))
  | exact ih0 _ _ _ _ _ _ _
  | exact spec_l01Text.mono _ _ _ _ _
  | exact LeO.none _
  | refine LeO.ite ?_ ?_
  | refine LeO.bind ?_ (fun _ => ?_)
theorem spec_l03Act.mono : ∀ a0 a1 a2 k, LeO (spec_l03Act.f k a0 a1 a2) (spec_l03Act.f (k + 1) a0 a1 a2) := by
 intro a0 a1 a2 k
 have ih0 := spec_l03Act.mono_l k
 unfold spec_l03Act.f
 repeat' first
   | (with_reducible exact LeO.refl _)
   | (with_reducible refine LeO.ite ?_ ?_)
   | (with_reducible refine LeO.bind ?_ (fun _ => ?_))
   | exact ih0 _ _ _ _ _ _ _
   | exact spec_l01Text.mono _ _ _ _ _
   | exact LeO.none _
   | refine LeO.ite ?_ ?_
   | refine LeO.bind ?_ (fun _ => ?_)
set_option maxHeartbeats 8000000 in
set_option maxRecDepth 100000 in
theorem spec_l03Act.calls (k : Nat) (g : Nat) (s0_0 : List Int) (s0_1 : Int) (s0_2 : Int) (r1 : Int) (r2 : ByteArray) (r3 : ByteArray) (r4 : ByteArray) (r5 : Int) (r6 : Int) (w0 w : World) (hI : IsS97 w0 w g s0_0 s0_1 s0_2) (hB : Below w0.heap.size w0 w) (h : spec_l03Act.f k s0_0 s0_1 s0_2 = some (r1, r2, r3, r4, r5, r6)) :
  Calls Try.prog 78 #[.pointer (some ⟨g, 0, none⟩)] w fun e w' => e = .returned (.agg #[.int .i64 r1, .string r2, .string r3, .string r4]) ∧ IsS97 w0 w' g s0_0 r5 r6 ∧ Below w0.heap.size w0 w' ∧ KeepBut w w' g none := by
 have hu41 := Try.underlying41
 have HI0 := AM hI
 have HK := AM (KeepBut.refl w g none)
 have HL := AM hB.size
 clear hI
 have HW0 := AM hB.size
 have HB := AM hB
 clear hB
 have H : ((spec_l01Below.f s0_0 s0_1 s0_2 4).bind fun bt355 => ((spec_l03Named.f s0_0 bt355.2.1 bt355.2.2).bind fun bt358 => (if (wrap64 (1 + bt355.1)) = 1 then ((spec_l01Below.f s0_0 bt358.2.1 bt358.2.2 6).bind fun bt362 => ((spec_l01Text.f k s0_0 bt362.2.1 bt362.2.2 bt362.1).bind fun bt365 => (spec_l03Act.j0 k s0_0 bt365.2.1 bt365.2.2 (wrap64 (1 + bt355.1)) bt358.1 bt365.1 (⟨#[]⟩ : ByteArray)))) else (if (wrap64 (1 + bt355.1)) = 3 then ((spec_l03Named.f s0_0 bt358.2.1 bt358.2.2).bind fun bt368 => (spec_l03Act.j0 k s0_0 bt368.2.1 bt368.2.2 (wrap64 (1 + bt355.1)) bt358.1 (⟨#[]⟩ : ByteArray) bt368.1)) else (spec_l03Act.j0 k s0_0 bt358.2.1 bt358.2.2 (wrap64 (1 + bt355.1)) bt358.1 (⟨#[]⟩ : ByteArray) (⟨#[]⟩ : ByteArray)))))) = some (r1, r2, r3, r4, r5, r6) := h
 clear h
 replace H := bm H
 obtain ⟨⟨t355, t356, t357⟩, A20, H⟩ := H
 replace H : ((spec_l03Named.f s0_0 t356 t357).bind fun bt358 => (if (wrap64 (1 + t355)) = 1 then ((spec_l01Below.f s0_0 bt358.2.1 bt358.2.2 6).bind fun bt362 => ((spec_l01Text.f k s0_0 bt362.2.1 bt362.2.2 bt362.1).bind fun bt365 => (spec_l03Act.j0 k s0_0 bt365.2.1 bt365.2.2 (wrap64 (1 + t355)) bt358.1 bt365.1 (⟨#[]⟩ : ByteArray)))) else (if (wrap64 (1 + t355)) = 3 then ((spec_l03Named.f s0_0 bt358.2.1 bt358.2.2).bind fun bt368 => (spec_l03Act.j0 k s0_0 bt368.2.1 bt368.2.2 (wrap64 (1 + t355)) bt358.1 (⟨#[]⟩ : ByteArray) bt368.1)) else (spec_l03Act.j0 k s0_0 bt358.2.1 bt358.2.2 (wrap64 (1 + t355)) bt358.1 (⟨#[]⟩ : ByteArray) (⟨#[]⟩ : ByteArray))))) = some (r1, r2, r3, r4, r5, r6) := H
 have A2 := AM A20
 clear A20
 replace H := bm H
 obtain ⟨⟨t358, t359, t360⟩, A30, H⟩ := H
 replace H : (if (wrap64 (1 + t355)) = 1 then ((spec_l01Below.f s0_0 t359 t360 6).bind fun bt362 => ((spec_l01Text.f k s0_0 bt362.2.1 bt362.2.2 bt362.1).bind fun bt365 => (spec_l03Act.j0 k s0_0 bt365.2.1 bt365.2.2 (wrap64 (1 + t355)) t358 bt365.1 (⟨#[]⟩ : ByteArray)))) else (if (wrap64 (1 + t355)) = 3 then ((spec_l03Named.f s0_0 t359 t360).bind fun bt368 => (spec_l03Act.j0 k s0_0 bt368.2.1 bt368.2.2 (wrap64 (1 + t355)) t358 (⟨#[]⟩ : ByteArray) bt368.1)) else (spec_l03Act.j0 k s0_0 t359 t360 (wrap64 (1 + t355)) t358 (⟨#[]⟩ : ByteArray) (⟨#[]⟩ : ByteArray)))) = some (r1, r2, r3, r4, r5, r6) := H
 have A3 := AM A30
 clear A30
 have HC4 := AM H
 clear H
 go_enter Try.func78, Try.ntmps78
 go_upto_block 0 with (first | ((with_reducible refine gd 2 rfl ?_); refine bx (N := 2) (cs := #[.int .i64 0, .string (⟨#[]⟩ : ByteArray), .string (⟨#[]⟩ : ByteArray), .string (⟨#[]⟩ : ByteArray)]) (t := 41) ?_; intro gb354 hg w5 hbox hb; replace HB := AM (below_step (hI) hb); have BK354 := AM (hbox); have GW354 := AM ((by rw [hg]; exact (keep_size (w := w) (g := g) (row := none) (kI)) : w.heap.size ≤ gb354)); have GE354 := AM ((Nat.le_trans HW0.out (by rw [hg]; exact (keep_size (w := w) (g := g) (row := none) (kI)) : w.heap.size ≤ gb354) : w0.heap.size ≤ gb354)); replace HK := AM (KeepBut.trans (kI) (KeepBut.of_below hb g none) (.inl rfl)); have NB0_354 := AM ((by rw [hg]; exact Nat.ne_of_lt (IsS97.lt (show IsS97 w0 _ g s0_0 s0_1 s0_2 from sI)) : g ≠ gb354)); have NB354_0 := AM ((by rw [hg]; exact Nat.ne_of_gt (IsS97.lt (show IsS97 w0 _ g s0_0 s0_1 s0_2 from sI)) : gb354 ≠ g)); replace HI0 := AM (IsS97.below (sI) hb); clear hb hbox hg) | ((with_reducible refine gc 71 rfl ?_); refine gl 5 Try.func71 #[.pointer (some ⟨g, 0, none⟩), .int .i64 4] ?_; (with_reducible refine (spec_l01Below.calls g s0_0 s0_1 s0_2 4 t355 t356 t357 w0 _ ?side1 ?side2 A2.out).mono ?_); (case side1 => exact sI); (case side2 => exact hI); rintro e w6 ⟨rfl, hi, hb, hk⟩; refine ⟨_, rfl, ?_⟩; replace BK354 := AM (KeepBut.blk hk (g' := gb354) (o := .cells #[.int .i64 0, .string (⟨#[]⟩ : ByteArray), .string (⟨#[]⟩ : ByteArray), .string (⟨#[]⟩ : ByteArray)] 41 (0, 0)) (bk BK354) NB354_0.out (by simp)); replace HK := AM (KeepBut.trans (kI) hk (.inl rfl)); replace HB := AM (hb); replace HI0 := AM (hi); (try clear hb); (try clear hk); (try clear hi)) | ((with_reducible refine gc 73 rfl ?_); refine gl 8 Try.func73 #[.pointer (some ⟨g, 0, none⟩)] ?_; (with_reducible refine (spec_l03Named.calls g s0_0 t356 t357 t358 t359 t360 w0 _ ?side1 ?side2 A3.out).mono ?_); (case side1 => exact sI); (case side2 => exact hI); rintro e w7 ⟨rfl, hi, hb, hk⟩; refine ⟨_, rfl, ?_⟩; replace BK354 := AM (KeepBut.blk hk (g' := gb354) (o := .cells #[.int .i64 0, .string (⟨#[]⟩ : ByteArray), .string (⟨#[]⟩ : ByteArray), .string (⟨#[]⟩ : ByteArray)] 41 (0, 0)) (bk BK354) NB354_0.out (by simp)); replace HK := AM (KeepBut.trans (kI) hk (.inl rfl)); replace HB := AM (hb); replace HI0 := AM (hi); (try clear hb); (try clear hk); (try clear hi)) | ((with_reducible refine gd 3 rfl ?_); refine bx (N := 3) (cs := #[.int .i64 0, .string (⟨#[]⟩ : ByteArray), .string (⟨#[]⟩ : ByteArray), .string (⟨#[]⟩ : ByteArray)]) (t := 41) ?_; intro gb361 hg w8 hbox hb; replace HB := AM (below_step (hI) hb); have BK361 := AM (hbox); have GW361 := AM ((by rw [hg]; exact (keep_size (w := w) (g := g) (row := none) (kI)) : w.heap.size ≤ gb361)); have GE361 := AM ((Nat.le_trans HW0.out (by rw [hg]; exact (keep_size (w := w) (g := g) (row := none) (kI)) : w.heap.size ≤ gb361) : w0.heap.size ≤ gb361)); replace HK := AM (KeepBut.trans (kI) (KeepBut.of_below hb g none) (.inl rfl)); have NB354_361 := AM (nl hg (bk BK354)); have NB361_354 := AM (ng hg (bk BK354)); replace BK354 := bw BK354 hb; have NB0_361 := AM ((by rw [hg]; exact Nat.ne_of_lt (IsS97.lt (show IsS97 w0 _ g s0_0 t359 t360 from sI)) : g ≠ gb361)); have NB361_0 := AM ((by rw [hg]; exact Nat.ne_of_gt (IsS97.lt (show IsS97 w0 _ g s0_0 t359 t360 from sI)) : gb361 ≠ g)); replace HI0 := AM (IsS97.below (sI) hb); clear hb hbox hg; have hnb9 := NB361_354.out; have hnc9 := NB354_361.out; have hnb10 := NB361_0.out; have hnc10 := NB0_361.out; have hcz11_0 := bv BK361 0 (.int .i64 0); have hcz11_1 := bv BK361 1 (.string (⟨#[]⟩ : ByteArray)); have hcz11_2 := bv BK361 2 (.string (⟨#[]⟩ : ByteArray)); have hcz11_3 := bv BK361 3 (.string (⟨#[]⟩ : ByteArray)); have hfz11_0 := bz BK361 0; have hfz11_1 := bz BK361 1; have hfz11_2 := bz BK361 2; have hfz11_3 := bz BK361 3))
 (try simp only [Act.put, qT, q0, qS])
 go_cut [] (fun wc => ∃ (kq : Nat) (x1001_3 : Int) (x1002_3 : Int) (x362002_3 : ByteArray) (x362003_3 : ByteArray), Aside0 (spec_l03Act.j0 kq s0_0 x1001_3 x1002_3 (wrap64 (1 + t355)) t358 x362002_3 x362003_3 = some (r1, r2, r3, r4, r5, r6)) ∧ Aside0 (kq ≤ k) ∧ Aside0 (wc.heap[gb354]? = some (.cells #[.int .i64 0, .string (⟨#[]⟩ : ByteArray), .string (⟨#[]⟩ : ByteArray), .string (⟨#[]⟩ : ByteArray)] 41 (0, 0))) ∧ Aside0 (wc.heap[gb361]? = some (.cells #[.int .i64 (wrap64 (1 + t355)), .string t358, .string x362002_3, .string x362003_3] 41 (0, 0))) ∧ Aside0 (IsS97 w0 wc g s0_0 x1001_3 x1002_3) ∧ Aside0 (KeepBut w wc g none) ∧ Aside0 (Below w0.heap.size w0 wc))
 case first =>
  have H := HC4.out
  clear HC4
  by_cases c12 : (wrap64 (1 + t355)) = 1
  ·rw [if_pos c12] at H
   have c12b0 : ((wrap64 (1 + t355)) == 1) = true := beq_iff_eq.mpr c12
   have c12b1 : ((wrap64 (1 + t355)) != 1) = false := bne_eq_false_iff_eq.mpr c12
   clear c12
   (first | rw [c12b0] | (simp only [i64_w, i32_w]; rw [c12b0]) | rw [c12b1] | skip)
   replace H := bm H
   obtain ⟨⟨t362, t363, t364⟩, A130, H⟩ := H
   replace H : ((spec_l01Text.f k s0_0 t363 t364 t362).bind fun bt365 => (spec_l03Act.j0 k s0_0 bt365.2.1 bt365.2.2 (wrap64 (1 + t355)) t358 bt365.1 (⟨#[]⟩ : ByteArray))) = some (r1, r2, r3, r4, r5, r6) := H
   have A13 := AM A130
   clear A130
   replace H := bm H
   obtain ⟨⟨t365, t366, t367⟩, A140, H⟩ := H
   replace H : (spec_l03Act.j0 k s0_0 t366 t367 (wrap64 (1 + t355)) t358 t365 (⟨#[]⟩ : ByteArray)) = some (r1, r2, r3, r4, r5, r6) := H
   have A14 := AM A140
   clear A140
   have H' := AM H
   clear H
   go_wp2_with (first | ((with_reducible refine gc 71 rfl ?_); refine gl 16 Try.func71 #[.pointer (some ⟨g, 0, none⟩), .int .i64 6] ?_; (with_reducible refine (spec_l01Below.calls g s0_0 t359 t360 6 t362 t363 t364 w0 _ ?side1 ?side2 A13.out).mono ?_); (case side1 => exact sI); (case side2 => exact hI); rintro e w15 ⟨rfl, hi, hb, hk⟩; refine ⟨_, rfl, ?_⟩; replace BK354 := AM (KeepBut.blk hk (g' := gb354) (o := .cells #[.int .i64 0, .string (⟨#[]⟩ : ByteArray), .string (⟨#[]⟩ : ByteArray), .string (⟨#[]⟩ : ByteArray)] 41 (0, 0)) (be) NB354_0.out (by simp)); replace BK361 := AM (KeepBut.blk hk (g' := gb361) (o := .cells #[.int .i64 (wrap64 (1 + t355)), .string t358, .string (⟨#[]⟩ : ByteArray), .string (⟨#[]⟩ : ByteArray)] 41 (0, 0)) (by (with_reducible repeat first | apply aN | apply aD | apply aA); refine blk_put (cs := #[.int .i64 (wrap64 (1 + t355)), .string t358, .string (⟨#[]⟩ : ByteArray), .string (⟨#[]⟩ : ByteArray)]) ?_ 3 _ rfl; (with_reducible repeat first | apply aN | apply aD | apply aA); refine blk_put (cs := #[.int .i64 (wrap64 (1 + t355)), .string t358, .string (⟨#[]⟩ : ByteArray), .string (⟨#[]⟩ : ByteArray)]) ?_ 2 _ rfl; (with_reducible repeat first | apply aN | apply aD | apply aA); refine blk_put (cs := #[.int .i64 (wrap64 (1 + t355)), .string (⟨#[]⟩ : ByteArray), .string (⟨#[]⟩ : ByteArray), .string (⟨#[]⟩ : ByteArray)]) ?_ 1 _ rfl; (with_reducible repeat first | apply aN | apply aD | apply aA); refine blk_put (cs := #[.int .i64 0, .string (⟨#[]⟩ : ByteArray), .string (⟨#[]⟩ : ByteArray), .string (⟨#[]⟩ : ByteArray)]) ?_ 0 _ rfl; exact bk BK361) NB361_0.out (by simp)); replace HK := AM (KeepBut.trans (kI) hk (.inl rfl)); replace HB := AM (hb); replace HI0 := AM (hi); (try clear hb); (try clear hk); (try clear hi)) | ((with_reducible refine gc 72 rfl ?_); refine gl 17 Try.func72 #[.pointer (some ⟨g, 0, none⟩), .int .i64 t362] ?_; (with_reducible refine (spec_l01Text.calls k g s0_0 t363 t364 t362 t365 t366 t367 w0 _ ?side1 ?side2 A14.out).mono ?_); (case side1 => exact sI); (case side2 => exact hI); rintro e w16 ⟨rfl, hi, hb, hk⟩; refine ⟨_, rfl, ?_⟩; replace BK354 := AM (KeepBut.blk hk (g' := gb354) (o := .cells #[.int .i64 0, .string (⟨#[]⟩ : ByteArray), .string (⟨#[]⟩ : ByteArray), .string (⟨#[]⟩ : ByteArray)] 41 (0, 0)) (bk BK354) NB354_0.out (by simp)); replace BK361 := AM (KeepBut.blk hk (g' := gb361) (o := .cells #[.int .i64 (wrap64 (1 + t355)), .string t358, .string (⟨#[]⟩ : ByteArray), .string (⟨#[]⟩ : ByteArray)] 41 (0, 0)) (bk BK361) NB361_0.out (by simp)); replace HK := AM (KeepBut.trans (kI) hk (.inl rfl)); replace HB := AM (hb); replace HI0 := AM (hi); (try clear hb); (try clear hk); (try clear hi); have hnb17 := NB361_354.out; have hnc17 := NB354_361.out; have hnb18 := NB361_0.out; have hnc18 := NB0_361.out; have hcz19_0 := bv BK361 0 (.int .i64 (wrap64 (1 + t355))); have hcz19_1 := bv BK361 1 (.string t358); have hcz19_2 := bv BK361 2 (.string (⟨#[]⟩ : ByteArray)); have hcz19_3 := bv BK361 3 (.string (⟨#[]⟩ : ByteArray)); have hfz19_0 := bz BK361 0; have hfz19_1 := bz BK361 1; have hfz19_2 := bz BK361 2; have hfz19_3 := bz BK361 3))
   go_meet
   case rel => exact ⟨_, (t366), (t367), (t365), ((⟨#[]⟩ : ByteArray)), H', ⟨by first | omega | exact Nat.le_refl _⟩, ⟨be⟩, ⟨bp #[.int .i64 (wrap64 (1 + t355)), .string t358, .string (⟨#[]⟩ : ByteArray), .string (⟨#[]⟩ : ByteArray)] 2⟩, ⟨sI⟩, ⟨kI⟩, ⟨hI⟩⟩
  rw [if_neg c12] at H
  have c12b0 : ((wrap64 (1 + t355)) == 1) = false := beq_eq_false_iff_ne.mpr c12
  have c12b1 : ((wrap64 (1 + t355)) != 1) = true := bne_iff_ne.mpr c12
  (first | rw [c12b0] | (simp only [i64_w, i32_w]; rw [c12b0]) | rw [c12b1] | skip)
  by_cases c20 : (wrap64 (1 + t355)) = 3
  ·rw [if_pos c20] at H
   have c20b0 : ((wrap64 (1 + t355)) == 3) = true := beq_iff_eq.mpr c20
   have c20b1 : ((wrap64 (1 + t355)) != 3) = false := bne_eq_false_iff_eq.mpr c20
   clear c20
   replace H := bm H
   obtain ⟨⟨t368, t369, t370⟩, A210, H⟩ := H
   replace H : (spec_l03Act.j0 k s0_0 t369 t370 (wrap64 (1 + t355)) t358 (⟨#[]⟩ : ByteArray) t368) = some (r1, r2, r3, r4, r5, r6) := H
   have A21 := AM A210
   clear A210
   have H' := AM H
   clear H
   go_wp2_with (first | ((with_reducible refine gc 73 rfl ?_); refine gl 22 Try.func73 #[.pointer (some ⟨g, 0, none⟩)] ?_; (with_reducible refine (spec_l03Named.calls g s0_0 t359 t360 t368 t369 t370 w0 _ ?side1 ?side2 A21.out).mono ?_); (case side1 => exact sI); (case side2 => exact hI); rintro e w22 ⟨rfl, hi, hb, hk⟩; refine ⟨_, rfl, ?_⟩; replace BK354 := AM (KeepBut.blk hk (g' := gb354) (o := .cells #[.int .i64 0, .string (⟨#[]⟩ : ByteArray), .string (⟨#[]⟩ : ByteArray), .string (⟨#[]⟩ : ByteArray)] 41 (0, 0)) (be) NB354_0.out (by simp)); replace BK361 := AM (KeepBut.blk hk (g' := gb361) (o := .cells #[.int .i64 (wrap64 (1 + t355)), .string t358, .string (⟨#[]⟩ : ByteArray), .string (⟨#[]⟩ : ByteArray)] 41 (0, 0)) (by (with_reducible repeat first | apply aN | apply aD | apply aA); refine blk_put (cs := #[.int .i64 (wrap64 (1 + t355)), .string t358, .string (⟨#[]⟩ : ByteArray), .string (⟨#[]⟩ : ByteArray)]) ?_ 3 _ rfl; (with_reducible repeat first | apply aN | apply aD | apply aA); refine blk_put (cs := #[.int .i64 (wrap64 (1 + t355)), .string t358, .string (⟨#[]⟩ : ByteArray), .string (⟨#[]⟩ : ByteArray)]) ?_ 2 _ rfl; (with_reducible repeat first | apply aN | apply aD | apply aA); refine blk_put (cs := #[.int .i64 (wrap64 (1 + t355)), .string (⟨#[]⟩ : ByteArray), .string (⟨#[]⟩ : ByteArray), .string (⟨#[]⟩ : ByteArray)]) ?_ 1 _ rfl; (with_reducible repeat first | apply aN | apply aD | apply aA); refine blk_put (cs := #[.int .i64 0, .string (⟨#[]⟩ : ByteArray), .string (⟨#[]⟩ : ByteArray), .string (⟨#[]⟩ : ByteArray)]) ?_ 0 _ rfl; exact bk BK361) NB361_0.out (by simp)); replace HK := AM (KeepBut.trans (kI) hk (.inl rfl)); replace HB := AM (hb); replace HI0 := AM (hi); (try clear hb); (try clear hk); (try clear hi); have hnb23 := NB361_354.out; have hnc23 := NB354_361.out; have hnb24 := NB361_0.out; have hnc24 := NB0_361.out; have hcz25_0 := bv BK361 0 (.int .i64 (wrap64 (1 + t355))); have hcz25_1 := bv BK361 1 (.string t358); have hcz25_2 := bv BK361 2 (.string (⟨#[]⟩ : ByteArray)); have hcz25_3 := bv BK361 3 (.string (⟨#[]⟩ : ByteArray)); have hfz25_0 := bz BK361 0; have hfz25_1 := bz BK361 1; have hfz25_2 := bz BK361 2; have hfz25_3 := bz BK361 3))
   go_meet
   case rel => exact ⟨_, (t369), (t370), ((⟨#[]⟩ : ByteArray)), (t368), H', ⟨by first | omega | exact Nat.le_refl _⟩, ⟨be⟩, ⟨bp #[.int .i64 (wrap64 (1 + t355)), .string t358, .string (⟨#[]⟩ : ByteArray), .string (⟨#[]⟩ : ByteArray)] 3⟩, ⟨sI⟩, ⟨kI⟩, ⟨hI⟩⟩
  rw [if_neg c20] at H
  have c20b0 : ((wrap64 (1 + t355)) == 3) = false := beq_eq_false_iff_ne.mpr c20
  have c20b1 : ((wrap64 (1 + t355)) != 3) = true := bne_iff_ne.mpr c20
  have H' := AM H
  clear H
  go_wp2
  go_meet
  case rel => exact ⟨_, (t359), (t360), ((⟨#[]⟩ : ByteArray)), ((⟨#[]⟩ : ByteArray)), H', ⟨by first | omega | exact Nat.le_refl _⟩, ⟨be⟩, ⟨by (with_reducible repeat first | apply aN | apply aD | apply aA); refine blk_put (cs := #[.int .i64 (wrap64 (1 + t355)), .string t358, .string (⟨#[]⟩ : ByteArray), .string (⟨#[]⟩ : ByteArray)]) ?_ 3 _ rfl; (with_reducible repeat first | apply aN | apply aD | apply aA); refine blk_put (cs := #[.int .i64 (wrap64 (1 + t355)), .string t358, .string (⟨#[]⟩ : ByteArray), .string (⟨#[]⟩ : ByteArray)]) ?_ 2 _ rfl; (with_reducible repeat first | apply aN | apply aD | apply aA); refine blk_put (cs := #[.int .i64 (wrap64 (1 + t355)), .string (⟨#[]⟩ : ByteArray), .string (⟨#[]⟩ : ByteArray), .string (⟨#[]⟩ : ByteArray)]) ?_ 1 _ rfl; (with_reducible repeat first | apply aN | apply aD | apply aA); refine blk_put (cs := #[.int .i64 0, .string (⟨#[]⟩ : ByteArray), .string (⟨#[]⟩ : ByteArray), .string (⟨#[]⟩ : ByteArray)]) ?_ 0 _ rfl; exact bk BK361⟩, ⟨sI⟩, ⟨kI⟩, ⟨hI⟩⟩
 case rest =>
  clear HC4
  obtain ⟨kq, x1001_3, x1002_3, x362002_3, x362003_3, HA, HJ3, BK354, BK361, HI0, HK, HB⟩ := hcut
  cases kq with
  | zero => exact absurd HA.out (by simp [spec_l03Act.j0])
  | succ kj3 =>
   have H := HA.out
   clear HA
   simp only [spec_l03Act.j0] at H
   replace H := bm H
   obtain ⟨⟨t371, t372, t373⟩, A260, H⟩ := H
   replace H : (if t371 = 0 then ((spec_l01PickInt.f s0_0 t372 t373 (([0, 5] : List Int))).bind fun bt377 => (some (bt377.1, t358, x362002_3, x362003_3, bt377.2.1, bt377.2.2))) else (if t371 = 1 then ((spec_l01Pick.f s0_0 t372 t373 (([(⟨#[]⟩ : ByteArray), (⟨#[49, 50, 51, 52, 53, 54, 55, 56, 57]⟩ : ByteArray), (⟨#[110, 101, 119]⟩ : ByteArray)] : List ByteArray))).bind fun bt383 => (some ((wrap64 (1 + t355)), bt383.1, x362002_3, x362003_3, bt383.2.1, bt383.2.2))) else (if t371 = 2 then (some ((wrap64 (1 + t355)), t358, x362002_3, (⟨#[120]⟩ : ByteArray), t372, t373)) else (if t371 = 3 then (some ((wrap64 (1 + t355)), t358, (⟨#[120]⟩ : ByteArray), x362003_3, t372, t373)) else (some ((wrap64 (1 + t355)), t358, x362002_3, x362003_3, t372, t373)))))) = some (r1, r2, r3, r4, r5, r6) := H
   have A26 := AM A260
   clear A260
   by_cases c27 : t371 = 0
   ·rw [if_pos c27] at H
    have c27b0 : (t371 == 0) = true := beq_iff_eq.mpr c27
    have c27b1 : (t371 != 0) = false := bne_eq_false_iff_eq.mpr c27
    clear c27
    obtain ⟨y374, hy374⟩ : ∃ y_ : List Int, y_ = (([0, 5] : List Int)) := ⟨_, rfl⟩
    replace H : ((spec_l01PickInt.f s0_0 t372 t373 y374).bind fun bt377 => (some (bt377.1, t358, x362002_3, x362003_3, bt377.2.1, bt377.2.2))) = some (r1, r2, r3, r4, r5, r6) := by first | (rw [hy374]; with_reducible exact H) | (have H2_ := (Option.bind_some _ _).symm.trans H; rw [hy374]; with_reducible exact H2_) | (have H2_ := (Option.bind_some _ _).symm.trans H; with_reducible exact H2_) | with_reducible exact H | (rw [hy374]; exact H) | exact H
    have Ny374 := AM hy374
    clear hy374
    replace H := bm H
    obtain ⟨⟨t377, t378, t379⟩, A280, H⟩ := H
    replace H : (some (t377, t358, x362002_3, x362003_3, t378, t379)) = some (r1, r2, r3, r4, r5, r6) := H
    have A28 := AM A280
    clear A280
    simp only [Option.some.injEq, Prod.mk.injEq] at H
    obtain ⟨rfl, rfl, rfl, rfl, rfl, rfl⟩ := H
    go_wp2_with (first | ((with_reducible refine gc 71 rfl ?_); refine gl 25 Try.func71 #[.pointer (some ⟨g, 0, none⟩), .int .i64 40] ?_; (with_reducible refine (spec_l01Below.calls g s0_0 x1001_3 x1002_3 40 t371 t372 t373 w0 _ ?side1 ?side2 A26.out).mono ?_); (case side1 => exact sI); (case side2 => exact hI); rintro e w29 ⟨rfl, hi, hb, hk⟩; refine ⟨_, rfl, ?_⟩; replace BK354 := AM (KeepBut.blk hk (g' := gb354) (o := .cells #[.int .i64 0, .string (⟨#[]⟩ : ByteArray), .string (⟨#[]⟩ : ByteArray), .string (⟨#[]⟩ : ByteArray)] 41 (0, 0)) (bk BK354) NB354_0.out (by simp)); replace BK361 := AM (KeepBut.blk hk (g' := gb361) (o := .cells #[.int .i64 (wrap64 (1 + t355)), .string t358, .string x362002_3, .string x362003_3] 41 (0, 0)) (bk BK361) NB361_0.out (by simp)); replace HK := AM (KeepBut.trans (kI) hk (.inl rfl)); replace HB := AM (hb); replace HI0 := AM (hi); (try clear hb); (try clear hk); (try clear hi)) | ((with_reducible refine gd 29 rfl ?_); refine Kd.R_lit (Kd.int .i64) _ 3 ?hg (N := 29) ?hd (xs := ([0, 5] : List Int)) (inner := [.int .i64 0, .int .i64 5]) (ok := fun _ => True) (okp := fun _ => True) ?hr ?hp (fun _ hk => hk) trivial (Below.refl _ _) (Nat.le_refl _) (by simp) ?_; (case hd => rfl); (case hg => rfl); (case hr => first | (go_simp; done) | (go_simp; rfl)); (case hp => exact (Reps.one (show Kd.M (Kd.int .i64) _ _ _ 0 [.int .i64 0] from rfl) (Reps.one (show Kd.M (Kd.int .i64) _ _ _ 5 [.int .i64 5] from rfl) (Reps.none _ _)))); intro v375 w30 ho31 hb hg_ hnew_; clear hg_ hnew_; (first | rw [← Ny374.out] at ho31 | (simp only [Int.reduceToNat] at ho31; rw [← Ny374.out] at ho31)); have HO376 := AM (Kd.R_lower ho31 (keep_size (w := w) (g := g) (row := none) (kI))); replace BK354 := bw BK354 hb; replace BK361 := bw BK361 hb; replace HK := AM (KeepBut.trans (kI) (KeepBut.of_below hb g none) (.inl rfl)); replace HB := AM (below_step (hI) hb); replace HI0 := AM (IsS97.below (sI) hb); clear hb ho31; obtain ⟨Ao32, co32, eo32⟩ := Kd.R_slice HO376.out; subst eo32) | ((with_reducible refine gc 74 rfl ?_); refine gl 30 Try.func74 #[.pointer (some ⟨g, 0, none⟩), .slice Ao32 y374.length co32] ?_; (with_reducible refine (spec_l01PickInt.calls g s0_0 t372 t373 _ _ y374 t377 t378 t379 w0 _ ?side1 ?side2 ?side3 ?side4 ?side5 A28.out).mono ?_); (case side1 => exact sI); (case side2 => exact hI); (case side3 => repeat (first | exact (Kd.R_reads' HO376.out).2.2 | (with_reducible first | refine cA ?_ _ | refine cN ?_ _ | refine cD ?_))); (case side4 => exact (Kd.R_reads' HO376.out).2.1); (case side5 => exact far_slice (IsS97.own_ne HI0.out HO376.out (by decide))); rintro e w33 ⟨rfl, hi, hb, hk⟩; refine ⟨_, rfl, ?_⟩; replace BK354 := AM (KeepBut.blk hk (g' := gb354) (o := .cells #[.int .i64 0, .string (⟨#[]⟩ : ByteArray), .string (⟨#[]⟩ : ByteArray), .string (⟨#[]⟩ : ByteArray)] 41 (0, 0)) (bk BK354) NB354_0.out (by simp)); replace BK361 := AM (KeepBut.blk hk (g' := gb361) (o := .cells #[.int .i64 (wrap64 (1 + t355)), .string t358, .string x362002_3, .string x362003_3] 41 (0, 0)) (bk BK361) NB361_0.out (by simp)); replace HO376 := AM (Kd.R_mono (Kd.R_keep (IsS97.apart (show IsS97 w0 _ g s0_0 t372 t373 from sI) (by exact HO376.out) (by decide)) hk (fun _ h => h.2)) (fun _ h => h.1)); replace HK := AM (KeepBut.trans (kI) hk (.inl rfl)); replace HB := AM (hb); replace HI0 := AM (hi); (try clear hb); (try clear hk); (try clear hi); have hnb34 := NB361_354.out; have hnc34 := NB354_361.out; have hnb35 := NB361_0.out; have hnc35 := NB0_361.out; have hcz36_0 := bv BK361 0 (.int .i64 (wrap64 (1 + t355))); have hcz36_1 := bv BK361 1 (.string t358); have hcz36_2 := bv BK361 2 (.string x362002_3); have hcz36_3 := bv BK361 3 (.string x362003_3); have hfz36_0 := bz BK361 0; have hfz36_1 := bz BK361 1; have hfz36_2 := bz BK361 2; have hfz36_3 := bz BK361 3; have hnb37 := NB354_0.out; have hnc37 := NB0_354.out; have hcz38_0 := bv BK354 0 (.int .i64 0); have hcz38_1 := bv BK354 1 (.string (⟨#[]⟩ : ByteArray)); have hcz38_2 := bv BK354 2 (.string (⟨#[]⟩ : ByteArray)); have hcz38_3 := bv BK354 3 (.string (⟨#[]⟩ : ByteArray)); have hfz38_0 := bz BK354 0; have hfz38_1 := bz BK354 1; have hfz38_2 := bz BK354 2; have hfz38_3 := bz BK354 3))
    refine bodyPost_ret (results_cell_row rfl _ _ gb354 41 #[.int .i64 t377, .string t358, .string x362002_3, .string x362003_3] (0, 0) _ rfl (by (with_reducible repeat first | apply aN | apply aD | apply aA); refine blk_put (cs := #[.int .i64 t377, .string t358, .string x362002_3, .string (⟨#[]⟩ : ByteArray)]) ?_ 3 _ rfl; (with_reducible repeat first | apply aN | apply aD | apply aA); refine blk_put (cs := #[.int .i64 t377, .string t358, .string (⟨#[]⟩ : ByteArray), .string (⟨#[]⟩ : ByteArray)]) ?_ 2 _ rfl; (with_reducible repeat first | apply aN | apply aD | apply aA); refine blk_put (cs := #[.int .i64 t377, .string (⟨#[]⟩ : ByteArray), .string (⟨#[]⟩ : ByteArray), .string (⟨#[]⟩ : ByteArray)]) ?_ 1 _ rfl; (with_reducible repeat first | apply aN | apply aD | apply aA); refine blk_put (cs := #[.int .i64 0, .string (⟨#[]⟩ : ByteArray), .string (⟨#[]⟩ : ByteArray), .string (⟨#[]⟩ : ByteArray)]) ?_ 0 _ rfl; (with_reducible repeat first | apply aN | apply aD | apply aA); refine blk_far ?_ NB354_361.out _; exact bk BK354) Try.underlying41 rfl (by kernel_rfl)) rfl ?_
    exact ⟨er, sI, hI, kI⟩
   rw [if_neg c27] at H
   have c27b0 : (t371 == 0) = false := beq_eq_false_iff_ne.mpr c27
   have c27b1 : (t371 != 0) = true := bne_iff_ne.mpr c27
   by_cases c39 : t371 = 1
   ·rw [if_pos c39] at H
    have c39b0 : (t371 == 1) = true := beq_iff_eq.mpr c39
    have c39b1 : (t371 != 1) = false := bne_eq_false_iff_eq.mpr c39
    clear c39
    obtain ⟨y380, hy380⟩ : ∃ y_ : List ByteArray, y_ = (([(⟨#[]⟩ : ByteArray), (⟨#[49, 50, 51, 52, 53, 54, 55, 56, 57]⟩ : ByteArray), (⟨#[110, 101, 119]⟩ : ByteArray)] : List ByteArray)) := ⟨_, rfl⟩
    replace H : ((spec_l01Pick.f s0_0 t372 t373 y380).bind fun bt383 => (some ((wrap64 (1 + t355)), bt383.1, x362002_3, x362003_3, bt383.2.1, bt383.2.2))) = some (r1, r2, r3, r4, r5, r6) := by first | (rw [hy380]; with_reducible exact H) | (have H2_ := (Option.bind_some _ _).symm.trans H; rw [hy380]; with_reducible exact H2_) | (have H2_ := (Option.bind_some _ _).symm.trans H; with_reducible exact H2_) | with_reducible exact H | (rw [hy380]; exact H) | exact H
    have Ny380 := AM hy380
    clear hy380
    replace H := bm H
    obtain ⟨⟨t383, t384, t385⟩, A400, H⟩ := H
    replace H : (some ((wrap64 (1 + t355)), t383, x362002_3, x362003_3, t384, t385)) = some (r1, r2, r3, r4, r5, r6) := H
    have A40 := AM A400
    clear A400
    simp only [Option.some.injEq, Prod.mk.injEq] at H
    obtain ⟨rfl, rfl, rfl, rfl, rfl, rfl⟩ := H
    go_wp2_with (first | ((with_reducible refine gc 71 rfl ?_); refine gl 25 Try.func71 #[.pointer (some ⟨g, 0, none⟩), .int .i64 40] ?_; (with_reducible refine (spec_l01Below.calls g s0_0 x1001_3 x1002_3 40 t371 t372 t373 w0 _ ?side1 ?side2 A26.out).mono ?_); (case side1 => exact sI); (case side2 => exact hI); rintro e w41 ⟨rfl, hi, hb, hk⟩; refine ⟨_, rfl, ?_⟩; replace BK354 := AM (KeepBut.blk hk (g' := gb354) (o := .cells #[.int .i64 0, .string (⟨#[]⟩ : ByteArray), .string (⟨#[]⟩ : ByteArray), .string (⟨#[]⟩ : ByteArray)] 41 (0, 0)) (bk BK354) NB354_0.out (by simp)); replace BK361 := AM (KeepBut.blk hk (g' := gb361) (o := .cells #[.int .i64 (wrap64 (1 + t355)), .string t358, .string x362002_3, .string x362003_3] 41 (0, 0)) (bk BK361) NB361_0.out (by simp)); replace HK := AM (KeepBut.trans (kI) hk (.inl rfl)); replace HB := AM (hb); replace HI0 := AM (hi); (try clear hb); (try clear hk); (try clear hi)) | ((with_reducible refine gd 35 rfl ?_); refine Kd.R_lit Kd.string _ 9 ?hg (N := 35) ?hd (xs := ([(⟨#[]⟩ : ByteArray), (⟨#[49, 50, 51, 52, 53, 54, 55, 56, 57]⟩ : ByteArray), (⟨#[110, 101, 119]⟩ : ByteArray)] : List ByteArray)) (inner := [.string (⟨#[]⟩ : ByteArray), .string (⟨#[49, 50, 51, 52, 53, 54, 55, 56, 57]⟩ : ByteArray), .string (⟨#[110, 101, 119]⟩ : ByteArray)]) (ok := fun _ => True) (okp := fun _ => True) ?hr ?hp (fun _ hk => hk) trivial (Below.refl _ _) (Nat.le_refl _) (by simp) ?_; (case hd => rfl); (case hg => rfl); (case hr => first | (go_simp; done) | (go_simp; rfl)); (case hp => exact (Reps.one (show Kd.M Kd.string _ _ _ (⟨#[]⟩ : ByteArray) [.string (⟨#[]⟩ : ByteArray)] from rfl) (Reps.one (show Kd.M Kd.string _ _ _ (⟨#[49, 50, 51, 52, 53, 54, 55, 56, 57]⟩ : ByteArray) [.string (⟨#[49, 50, 51, 52, 53, 54, 55, 56, 57]⟩ : ByteArray)] from rfl) (Reps.one (show Kd.M Kd.string _ _ _ (⟨#[110, 101, 119]⟩ : ByteArray) [.string (⟨#[110, 101, 119]⟩ : ByteArray)] from rfl) (Reps.none _ _))))); intro v381 w42 ho43 hb hg_ hnew_; clear hg_ hnew_; (first | rw [← Ny380.out] at ho43 | (simp only [Int.reduceToNat] at ho43; rw [← Ny380.out] at ho43)); have HO382 := AM (Kd.R_lower ho43 (keep_size (w := w) (g := g) (row := none) (kI))); replace BK354 := bw BK354 hb; replace BK361 := bw BK361 hb; replace HK := AM (KeepBut.trans (kI) (KeepBut.of_below hb g none) (.inl rfl)); replace HB := AM (below_step (hI) hb); replace HI0 := AM (IsS97.below (sI) hb); clear hb ho43; obtain ⟨Ao44, co44, eo44⟩ := Kd.R_slice HO382.out; subst eo44) | ((with_reducible refine gc 75 rfl ?_); refine gl 36 Try.func75 #[.pointer (some ⟨g, 0, none⟩), .slice Ao44 y380.length co44] ?_; (with_reducible refine (spec_l01Pick.calls g s0_0 t372 t373 _ _ y380 t383 t384 t385 w0 _ ?side1 ?side2 ?side3 ?side4 ?side5 A40.out).mono ?_); (case side1 => exact sI); (case side2 => exact hI); (case side3 => repeat (first | exact (Kd.R_reads' HO382.out).2.2 | (with_reducible first | refine cA ?_ _ | refine cN ?_ _ | refine cD ?_))); (case side4 => exact (Kd.R_reads' HO382.out).2.1); (case side5 => exact far_slice (IsS97.own_ne HI0.out HO382.out (by decide))); rintro e w45 ⟨rfl, hi, hb, hk⟩; refine ⟨_, rfl, ?_⟩; replace BK354 := AM (KeepBut.blk hk (g' := gb354) (o := .cells #[.int .i64 0, .string (⟨#[]⟩ : ByteArray), .string (⟨#[]⟩ : ByteArray), .string (⟨#[]⟩ : ByteArray)] 41 (0, 0)) (bk BK354) NB354_0.out (by simp)); replace BK361 := AM (KeepBut.blk hk (g' := gb361) (o := .cells #[.int .i64 (wrap64 (1 + t355)), .string t358, .string x362002_3, .string x362003_3] 41 (0, 0)) (bk BK361) NB361_0.out (by simp)); replace HO382 := AM (Kd.R_mono (Kd.R_keep (IsS97.apart (show IsS97 w0 _ g s0_0 t372 t373 from sI) (by exact HO382.out) (by decide)) hk (fun _ h => h.2)) (fun _ h => h.1)); replace HK := AM (KeepBut.trans (kI) hk (.inl rfl)); replace HB := AM (hb); replace HI0 := AM (hi); (try clear hb); (try clear hk); (try clear hi); have hnb46 := NB361_354.out; have hnc46 := NB354_361.out; have hnb47 := NB361_0.out; have hnc47 := NB0_361.out; have hcz48_0 := bv BK361 0 (.int .i64 (wrap64 (1 + t355))); have hcz48_1 := bv BK361 1 (.string t358); have hcz48_2 := bv BK361 2 (.string x362002_3); have hcz48_3 := bv BK361 3 (.string x362003_3); have hfz48_0 := bz BK361 0; have hfz48_1 := bz BK361 1; have hfz48_2 := bz BK361 2; have hfz48_3 := bz BK361 3; have hnb49 := NB354_0.out; have hnc49 := NB0_354.out; have hcz50_0 := bv BK354 0 (.int .i64 0); have hcz50_1 := bv BK354 1 (.string (⟨#[]⟩ : ByteArray)); have hcz50_2 := bv BK354 2 (.string (⟨#[]⟩ : ByteArray)); have hcz50_3 := bv BK354 3 (.string (⟨#[]⟩ : ByteArray)); have hfz50_0 := bz BK354 0; have hfz50_1 := bz BK354 1; have hfz50_2 := bz BK354 2; have hfz50_3 := bz BK354 3))
    refine bodyPost_ret (results_cell_row rfl _ _ gb354 41 #[.int .i64 (wrap64 (1 + t355)), .string t383, .string x362002_3, .string x362003_3] (0, 0) _ rfl (by (with_reducible repeat first | apply aN | apply aD | apply aA); refine blk_put (cs := #[.int .i64 (wrap64 (1 + t355)), .string t383, .string x362002_3, .string (⟨#[]⟩ : ByteArray)]) ?_ 3 _ rfl; (with_reducible repeat first | apply aN | apply aD | apply aA); refine blk_put (cs := #[.int .i64 (wrap64 (1 + t355)), .string t383, .string (⟨#[]⟩ : ByteArray), .string (⟨#[]⟩ : ByteArray)]) ?_ 2 _ rfl; (with_reducible repeat first | apply aN | apply aD | apply aA); refine blk_put (cs := #[.int .i64 (wrap64 (1 + t355)), .string (⟨#[]⟩ : ByteArray), .string (⟨#[]⟩ : ByteArray), .string (⟨#[]⟩ : ByteArray)]) ?_ 1 _ rfl; (with_reducible repeat first | apply aN | apply aD | apply aA); refine blk_put (cs := #[.int .i64 0, .string (⟨#[]⟩ : ByteArray), .string (⟨#[]⟩ : ByteArray), .string (⟨#[]⟩ : ByteArray)]) ?_ 0 _ rfl; (with_reducible repeat first | apply aN | apply aD | apply aA); refine blk_far ?_ NB354_361.out _; exact bk BK354) Try.underlying41 rfl (by kernel_rfl)) rfl ?_
    exact ⟨er, sI, hI, kI⟩
   rw [if_neg c39] at H
   have c39b0 : (t371 == 1) = false := beq_eq_false_iff_ne.mpr c39
   have c39b1 : (t371 != 1) = true := bne_iff_ne.mpr c39
   by_cases c51 : t371 = 2
   ·rw [if_pos c51] at H
    have c51b0 : (t371 == 2) = true := beq_iff_eq.mpr c51
    have c51b1 : (t371 != 2) = false := bne_eq_false_iff_eq.mpr c51
    clear c51
    simp only [Option.some.injEq, Prod.mk.injEq] at H
    obtain ⟨rfl, rfl, rfl, rfl, rfl, rfl⟩ := H
    go_wp2_with (first | ((with_reducible refine gc 71 rfl ?_); refine gl 25 Try.func71 #[.pointer (some ⟨g, 0, none⟩), .int .i64 40] ?_; (with_reducible refine (spec_l01Below.calls g s0_0 x1001_3 x1002_3 40 t371 t372 t373 w0 _ ?side1 ?side2 A26.out).mono ?_); (case side1 => exact sI); (case side2 => exact hI); rintro e w52 ⟨rfl, hi, hb, hk⟩; refine ⟨_, rfl, ?_⟩; replace BK354 := AM (KeepBut.blk hk (g' := gb354) (o := .cells #[.int .i64 0, .string (⟨#[]⟩ : ByteArray), .string (⟨#[]⟩ : ByteArray), .string (⟨#[]⟩ : ByteArray)] 41 (0, 0)) (bk BK354) NB354_0.out (by simp)); replace BK361 := AM (KeepBut.blk hk (g' := gb361) (o := .cells #[.int .i64 (wrap64 (1 + t355)), .string t358, .string x362002_3, .string x362003_3] 41 (0, 0)) (bk BK361) NB361_0.out (by simp)); replace HK := AM (KeepBut.trans (kI) hk (.inl rfl)); replace HB := AM (hb); replace HI0 := AM (hi); (try clear hb); (try clear hk); (try clear hi); have hnb53 := NB361_354.out; have hnc53 := NB354_361.out; have hnb54 := NB361_0.out; have hnc54 := NB0_361.out; have hcz55_0 := bv BK361 0 (.int .i64 (wrap64 (1 + t355))); have hcz55_1 := bv BK361 1 (.string t358); have hcz55_2 := bv BK361 2 (.string x362002_3); have hcz55_3 := bv BK361 3 (.string x362003_3); have hfz55_0 := bz BK361 0; have hfz55_1 := bz BK361 1; have hfz55_2 := bz BK361 2; have hfz55_3 := bz BK361 3; have hnb56 := NB354_0.out; have hnc56 := NB0_354.out; have hcz57_0 := bv BK354 0 (.int .i64 0); have hcz57_1 := bv BK354 1 (.string (⟨#[]⟩ : ByteArray)); have hcz57_2 := bv BK354 2 (.string (⟨#[]⟩ : ByteArray)); have hcz57_3 := bv BK354 3 (.string (⟨#[]⟩ : ByteArray)); have hfz57_0 := bz BK354 0; have hfz57_1 := bz BK354 1; have hfz57_2 := bz BK354 2; have hfz57_3 := bz BK354 3))
    refine bodyPost_ret (results_cell_row rfl _ _ gb354 41 #[.int .i64 (wrap64 (1 + t355)), .string t358, .string x362002_3, .string (⟨#[120]⟩ : ByteArray)] (0, 0) _ rfl (by (with_reducible repeat first | apply aN | apply aD | apply aA); refine blk_put (cs := #[.int .i64 (wrap64 (1 + t355)), .string t358, .string x362002_3, .string (⟨#[]⟩ : ByteArray)]) ?_ 3 _ rfl; (with_reducible repeat first | apply aN | apply aD | apply aA); refine blk_put (cs := #[.int .i64 (wrap64 (1 + t355)), .string t358, .string (⟨#[]⟩ : ByteArray), .string (⟨#[]⟩ : ByteArray)]) ?_ 2 _ rfl; (with_reducible repeat first | apply aN | apply aD | apply aA); refine blk_put (cs := #[.int .i64 (wrap64 (1 + t355)), .string (⟨#[]⟩ : ByteArray), .string (⟨#[]⟩ : ByteArray), .string (⟨#[]⟩ : ByteArray)]) ?_ 1 _ rfl; (with_reducible repeat first | apply aN | apply aD | apply aA); refine blk_put (cs := #[.int .i64 0, .string (⟨#[]⟩ : ByteArray), .string (⟨#[]⟩ : ByteArray), .string (⟨#[]⟩ : ByteArray)]) ?_ 0 _ rfl; (with_reducible repeat first | apply aN | apply aD | apply aA); refine blk_far ?_ NB354_361.out _; exact bk BK354) Try.underlying41 rfl (by kernel_rfl)) rfl ?_
    exact ⟨er, sI, hI, kI⟩
   rw [if_neg c51] at H
   have c51b0 : (t371 == 2) = false := beq_eq_false_iff_ne.mpr c51
   have c51b1 : (t371 != 2) = true := bne_iff_ne.mpr c51
   by_cases c58 : t371 = 3
   ·rw [if_pos c58] at H
    have c58b0 : (t371 == 3) = true := beq_iff_eq.mpr c58
    have c58b1 : (t371 != 3) = false := bne_eq_false_iff_eq.mpr c58
    clear c58
    simp only [Option.some.injEq, Prod.mk.injEq] at H
    obtain ⟨rfl, rfl, rfl, rfl, rfl, rfl⟩ := H
    go_wp2_with (first | ((with_reducible refine gc 71 rfl ?_); refine gl 25 Try.func71 #[.pointer (some ⟨g, 0, none⟩), .int .i64 40] ?_; (with_reducible refine (spec_l01Below.calls g s0_0 x1001_3 x1002_3 40 t371 t372 t373 w0 _ ?side1 ?side2 A26.out).mono ?_); (case side1 => exact sI); (case side2 => exact hI); rintro e w59 ⟨rfl, hi, hb, hk⟩; refine ⟨_, rfl, ?_⟩; replace BK354 := AM (KeepBut.blk hk (g' := gb354) (o := .cells #[.int .i64 0, .string (⟨#[]⟩ : ByteArray), .string (⟨#[]⟩ : ByteArray), .string (⟨#[]⟩ : ByteArray)] 41 (0, 0)) (bk BK354) NB354_0.out (by simp)); replace BK361 := AM (KeepBut.blk hk (g' := gb361) (o := .cells #[.int .i64 (wrap64 (1 + t355)), .string t358, .string x362002_3, .string x362003_3] 41 (0, 0)) (bk BK361) NB361_0.out (by simp)); replace HK := AM (KeepBut.trans (kI) hk (.inl rfl)); replace HB := AM (hb); replace HI0 := AM (hi); (try clear hb); (try clear hk); (try clear hi); have hnb60 := NB361_354.out; have hnc60 := NB354_361.out; have hnb61 := NB361_0.out; have hnc61 := NB0_361.out; have hcz62_0 := bv BK361 0 (.int .i64 (wrap64 (1 + t355))); have hcz62_1 := bv BK361 1 (.string t358); have hcz62_2 := bv BK361 2 (.string x362002_3); have hcz62_3 := bv BK361 3 (.string x362003_3); have hfz62_0 := bz BK361 0; have hfz62_1 := bz BK361 1; have hfz62_2 := bz BK361 2; have hfz62_3 := bz BK361 3; have hnb63 := NB354_0.out; have hnc63 := NB0_354.out; have hcz64_0 := bv BK354 0 (.int .i64 0); have hcz64_1 := bv BK354 1 (.string (⟨#[]⟩ : ByteArray)); have hcz64_2 := bv BK354 2 (.string (⟨#[]⟩ : ByteArray)); have hcz64_3 := bv BK354 3 (.string (⟨#[]⟩ : ByteArray)); have hfz64_0 := bz BK354 0; have hfz64_1 := bz BK354 1; have hfz64_2 := bz BK354 2; have hfz64_3 := bz BK354 3))
    refine bodyPost_ret (results_cell_row rfl _ _ gb354 41 #[.int .i64 (wrap64 (1 + t355)), .string t358, .string (⟨#[120]⟩ : ByteArray), .string x362003_3] (0, 0) _ rfl (by (with_reducible repeat first | apply aN | apply aD | apply aA); refine blk_put (cs := #[.int .i64 (wrap64 (1 + t355)), .string t358, .string (⟨#[120]⟩ : ByteArray), .string (⟨#[]⟩ : ByteArray)]) ?_ 3 _ rfl; (with_reducible repeat first | apply aN | apply aD | apply aA); refine blk_put (cs := #[.int .i64 (wrap64 (1 + t355)), .string t358, .string (⟨#[]⟩ : ByteArray), .string (⟨#[]⟩ : ByteArray)]) ?_ 2 _ rfl; (with_reducible repeat first | apply aN | apply aD | apply aA); refine blk_put (cs := #[.int .i64 (wrap64 (1 + t355)), .string (⟨#[]⟩ : ByteArray), .string (⟨#[]⟩ : ByteArray), .string (⟨#[]⟩ : ByteArray)]) ?_ 1 _ rfl; (with_reducible repeat first | apply aN | apply aD | apply aA); refine blk_put (cs := #[.int .i64 0, .string (⟨#[]⟩ : ByteArray), .string (⟨#[]⟩ : ByteArray), .string (⟨#[]⟩ : ByteArray)]) ?_ 0 _ rfl; (with_reducible repeat first | apply aN | apply aD | apply aA); refine blk_far ?_ NB354_361.out _; exact bk BK354) Try.underlying41 rfl (by kernel_rfl)) rfl ?_
    exact ⟨er, sI, hI, kI⟩
   rw [if_neg c58] at H
   have c58b0 : (t371 == 3) = false := beq_eq_false_iff_ne.mpr c58
   have c58b1 : (t371 != 3) = true := bne_iff_ne.mpr c58
   simp only [Option.some.injEq, Prod.mk.injEq] at H
   obtain ⟨rfl, rfl, rfl, rfl, rfl, rfl⟩ := H
   go_wp2_with (first | ((with_reducible refine gc 71 rfl ?_); refine gl 25 Try.func71 #[.pointer (some ⟨g, 0, none⟩), .int .i64 40] ?_; (with_reducible refine (spec_l01Below.calls g s0_0 x1001_3 x1002_3 40 t371 t372 t373 w0 _ ?side1 ?side2 A26.out).mono ?_); (case side1 => exact sI); (case side2 => exact hI); rintro e w65 ⟨rfl, hi, hb, hk⟩; refine ⟨_, rfl, ?_⟩; replace BK354 := AM (KeepBut.blk hk (g' := gb354) (o := .cells #[.int .i64 0, .string (⟨#[]⟩ : ByteArray), .string (⟨#[]⟩ : ByteArray), .string (⟨#[]⟩ : ByteArray)] 41 (0, 0)) (bk BK354) NB354_0.out (by simp)); replace BK361 := AM (KeepBut.blk hk (g' := gb361) (o := .cells #[.int .i64 (wrap64 (1 + t355)), .string t358, .string x362002_3, .string x362003_3] 41 (0, 0)) (bk BK361) NB361_0.out (by simp)); replace HK := AM (KeepBut.trans (kI) hk (.inl rfl)); replace HB := AM (hb); replace HI0 := AM (hi); (try clear hb); (try clear hk); (try clear hi); have hnb66 := NB361_354.out; have hnc66 := NB354_361.out; have hnb67 := NB361_0.out; have hnc67 := NB0_361.out; have hcz68_0 := bv BK361 0 (.int .i64 (wrap64 (1 + t355))); have hcz68_1 := bv BK361 1 (.string t358); have hcz68_2 := bv BK361 2 (.string x362002_3); have hcz68_3 := bv BK361 3 (.string x362003_3); have hfz68_0 := bz BK361 0; have hfz68_1 := bz BK361 1; have hfz68_2 := bz BK361 2; have hfz68_3 := bz BK361 3; have hnb69 := NB354_0.out; have hnc69 := NB0_354.out; have hcz70_0 := bv BK354 0 (.int .i64 0); have hcz70_1 := bv BK354 1 (.string (⟨#[]⟩ : ByteArray)); have hcz70_2 := bv BK354 2 (.string (⟨#[]⟩ : ByteArray)); have hcz70_3 := bv BK354 3 (.string (⟨#[]⟩ : ByteArray)); have hfz70_0 := bz BK354 0; have hfz70_1 := bz BK354 1; have hfz70_2 := bz BK354 2; have hfz70_3 := bz BK354 3))
   refine bodyPost_ret (results_cell_row rfl _ _ gb354 41 #[.int .i64 (wrap64 (1 + t355)), .string t358, .string x362002_3, .string x362003_3] (0, 0) _ rfl (by (with_reducible repeat first | apply aN | apply aD | apply aA); refine blk_put (cs := #[.int .i64 (wrap64 (1 + t355)), .string t358, .string x362002_3, .string (⟨#[]⟩ : ByteArray)]) ?_ 3 _ rfl; (with_reducible repeat first | apply aN | apply aD | apply aA); refine blk_put (cs := #[.int .i64 (wrap64 (1 + t355)), .string t358, .string (⟨#[]⟩ : ByteArray), .string (⟨#[]⟩ : ByteArray)]) ?_ 2 _ rfl; (with_reducible repeat first | apply aN | apply aD | apply aA); refine blk_put (cs := #[.int .i64 (wrap64 (1 + t355)), .string (⟨#[]⟩ : ByteArray), .string (⟨#[]⟩ : ByteArray), .string (⟨#[]⟩ : ByteArray)]) ?_ 1 _ rfl; (with_reducible repeat first | apply aN | apply aD | apply aA); refine blk_put (cs := #[.int .i64 0, .string (⟨#[]⟩ : ByteArray), .string (⟨#[]⟩ : ByteArray), .string (⟨#[]⟩ : ByteArray)]) ?_ 0 _ rfl; exact bk BK354) Try.underlying41 rfl (by kernel_rfl)) rfl ?_
   exact ⟨er, sI, hI, kI⟩

/-! ### spec_l01Once: function 79 -/
def spec_l01Once.f (s0_0 : List Int) (s0_1 : Int) (s0_2 : Int) (a1 : Int) : Option (Bool × Int × Int) := (spec_l01Below.f s0_0 s0_1 s0_2 a1).bind fun bt386 => (some ((bt386.1 == 0), bt386.2.1, bt386.2.2))
set_option maxHeartbeats 8000000 in
set_option maxRecDepth 100000 in
theorem spec_l01Once.calls (g : Nat) (s0_0 : List Int) (s0_1 : Int) (s0_2 : Int) (a1 : Int) (r1 : Bool) (r2 : Int) (r3 : Int) (w0 w : World) (hI : IsS97 w0 w g s0_0 s0_1 s0_2) (hB : Below w0.heap.size w0 w) (h : spec_l01Once.f s0_0 s0_1 s0_2 a1 = some (r1, r2, r3)) :
  Calls Try.prog 79 #[.pointer (some ⟨g, 0, none⟩), .int .i64 a1] w fun e w' => e = .returned (.bool r1) ∧ IsS97 w0 w' g s0_0 r2 r3 ∧ Below w0.heap.size w0 w' ∧ KeepBut w w' g none := by
 have HI0 := AM hI
 have HK := AM (KeepBut.refl w g none)
 have HL := AM hB.size
 clear hI
 have HW0 := AM hB.size
 have HB := AM hB
 clear hB
 have H : ((spec_l01Below.f s0_0 s0_1 s0_2 a1).bind fun bt386 => (some ((bt386.1 == 0), bt386.2.1, bt386.2.2))) = some (r1, r2, r3) := h
 clear h
 replace H := bm H
 obtain ⟨⟨t386, t387, t388⟩, A30, H⟩ := H
 replace H : (some ((t386 == 0), t387, t388)) = some (r1, r2, r3) := H
 have A3 := AM A30
 clear A30
 simp only [Option.some.injEq, Prod.mk.injEq] at H
 obtain ⟨rfl, rfl, rfl⟩ := H
 go_enter Try.func79, Try.ntmps79
 go_wp2_with (first | ((with_reducible refine gc 71 rfl ?_); refine gl 7 Try.func71 #[.pointer (some ⟨g, 0, none⟩), .int .i64 a1] ?_; (with_reducible refine (spec_l01Below.calls g s0_0 s0_1 s0_2 a1 t386 t387 t388 w0 _ ?side1 ?side2 A3.out).mono ?_); (case side1 => exact sI); (case side2 => exact hI); rintro e w4 ⟨rfl, hi, hb, hk⟩; refine ⟨_, rfl, ?_⟩; replace HK := AM (KeepBut.trans (kI) hk (.inl rfl)); replace HB := AM (hb); replace HI0 := AM (hi); (try clear hb); (try clear hk); (try clear hi)))
 go_ret
 exact ⟨er, sI, hI, kI⟩

/-! ### spec_l03Acts: function 61 -/
def spec_l03Acts.l0 : Nat → List (S41) → Int → List Int → Int → Int → List (S67) → Option ((List (S41)) × Int × Int)
 | 0, _, _, _, _, _, _ => none
 | k + 1, x5, x6, x1000, x1001, x1002, x390000 => (spec_l01Below.f x1000 x1001 x1002 9).bind fun bt393 => (if x6 < bt393.1 then ((spec_l03Act.f k x1000 bt393.2.1 bt393.2.2).bind fun bt396 => ((spec_DoAct.f k x390000 bt396.1 bt396.2.1 bt396.2.2.1 bt396.2.2.2.1).bind fun bt403 => (if bt403.2 = true then (if x5.length < 2513169434916 then (spec_l03Acts.l0 k (x5 ++ [(⟨bt396.1, bt396.2.1, bt396.2.2.1, bt396.2.2.2.1⟩ : S41)]) (wrap64 (x6 + 1)) x1000 bt396.2.2.2.2.1 bt396.2.2.2.2.2 bt403.1) else (none)) else ((spec_l01Once.f x1000 bt396.2.2.2.2.1 bt396.2.2.2.2.2 20).bind fun bt411 => (if bt411.1 = true then (if x5.length < 2513169434916 then (spec_l03Acts.l0 k (x5 ++ [(⟨bt396.1, bt396.2.1, bt396.2.2.1, bt396.2.2.2.1⟩ : S41)]) (wrap64 (x6 + 1)) x1000 bt411.2.1 bt411.2.2 bt403.1) else (none)) else (spec_l03Acts.l0 k x5 (wrap64 (x6 + 1)) x1000 bt411.2.1 bt411.2.2 x390000)))))) else (some (x5, bt393.2.1, bt393.2.2)))
def spec_l03Acts.f (k : Nat) (s0_0 : List Int) (s0_1 : Int) (s0_2 : Int) (l1_0 : List (S67)) : Option ((List (S41)) × Int × Int) := spec_l03Acts.l0 k (([] : List (S41))) 0 s0_0 s0_1 s0_2 l1_0
theorem spec_l03Acts.mono_l : ∀ k, (∀ y0 y1 y2 y3 y4 y5, LeO (spec_l03Acts.l0 k y0 y1 y2 y3 y4 y5) (spec_l03Acts.l0 (k + 1) y0 y1 y2 y3 y4 y5))
 | 0 => fun _ _ _ _ _ _ r h => by simp [spec_l03Acts.l0] at h
 | k + 1 => by
  have ih0 := spec_l03Acts.mono_l k
  intro y0 y1 y2 y3 y4 y5
  unfold spec_l03Acts.l0
  repeat' first
  | (with_reducible exact LeO.refl _)
  | (with_reducible refine LeO.ite ?_ ?_)
  | (with_reducible refine LeO.bind ?_ (fun _ => ?_))
  | exact ih0 _ _ _ _ _ _
  | exact spec_DoAct.mono _ _ _ _ _ _
  | exact spec_l03Act.mono _ _ _ _
  | exact LeO.none _
  | refine LeO.ite ?_ ?_
  | refine LeO.bind ?_ (fun _ => ?_)
theorem spec_l03Acts.mono : ∀ a0 a1 a2 a3 k, LeO (spec_l03Acts.f k a0 a1 a2 a3) (spec_l03Acts.f (k + 1) a0 a1 a2 a3) := by
 intro a0 a1 a2 a3 k
 have ih0 := spec_l03Acts.mono_l k
 unfold spec_l03Acts.f
 repeat' first
   | (with_reducible exact LeO.refl _)
   | (with_reducible refine LeO.ite ?_ ?_)
   | (with_reducible refine LeO.bind ?_ (fun _ => ?_))
   | exact ih0 _ _ _ _ _ _
   | exact spec_DoAct.mono _ _ _ _ _ _
   | exact spec_l03Act.mono _ _ _ _
   | exact LeO.none _
   | refine LeO.ite ?_ ?_
   | refine LeO.bind ?_ (fun _ => ?_)
set_option maxHeartbeats 8000000 in
set_option maxRecDepth 100000 in
theorem spec_l03Acts.calls (k : Nat) (g : Nat) (s0_0 : List Int) (s0_1 : Int) (s0_2 : Int) (P1_0_ : Nat → Prop) (A1_0 : Option Addr) (c1_0 : Nat) (l1_0 : List (S67)) (r1 : List (S41)) (r2 : Int) (r3 : Int) (w0 w : World) (hI : IsS97 w0 w g s0_0 s0_1 s0_2) (hB : Below w0.heap.size w0 w) (hs1_0 : Kd.V k67 67 w w.heap.size (fun k_ => P1_0_ k_ ∧ k_ ≠ g) (.slice A1_0 l1_0.length c1_0) l1_0) (h : spec_l03Acts.f k s0_0 s0_1 s0_2 l1_0 = some (r1, r2, r3)) :
  Calls Try.prog 61 #[.pointer (some ⟨g, 0, none⟩), .agg #[.slice A1_0 l1_0.length c1_0]] w fun e w' => ∃ v0_ : Value, e = .returned (v0_) ∧ Kd.R k41 41 w' w.heap.size (fun k_ => (w.heap.size ≤ k_)) v0_ r1 ∧ IsS97 w0 w' g s0_0 r2 r3 ∧ Below w0.heap.size w0 w' ∧ KeepBut w w' g none := by
 have hu30 := Try.underlying30
 have hu41 := Try.underlying41
 have HO1_0 := AM (show Kd.V k67 67 w w.heap.size (fun k_ => (P1_0_ k_ ∨ w.heap.size ≤ k_) ∧ k_ ≠ g) (.slice A1_0 l1_0.length c1_0) l1_0 from Kd.V_mono hs1_0 (fun k_ hk => ⟨.inl hk.1, hk.2⟩))
 have HI0 := AM hI
 have HK := AM (KeepBut.refl w g none)
 have HL := AM hB.size
 clear hI
 have HW0 := AM hB.size
 have HB := AM hB
 clear hB
 have H : (spec_l03Acts.l0 k (([] : List (S41))) 0 s0_0 s0_1 s0_2 l1_0) = some (r1, r2, r3) := h
 clear h
 obtain ⟨y390, hy390⟩ : ∃ y_ : List (S41), y_ = (([] : List (S41))) := ⟨_, rfl⟩
 replace H : (spec_l03Acts.l0 k y390 0 s0_0 s0_1 s0_2 l1_0) = some (r1, r2, r3) := by first | (rw [hy390]; with_reducible exact H) | (have H2_ := (Option.bind_some _ _).symm.trans H; rw [hy390]; with_reducible exact H2_) | (have H2_ := (Option.bind_some _ _).symm.trans H; with_reducible exact H2_) | with_reducible exact H | (rw [hy390]; exact H) | exact H
 have Ny390 := AM hy390
 clear hy390
 have H' := AM H
 clear H
 go_enter Try.func61, Try.ntmps61
 go_wp2_with (first | ((with_reducible refine gd 3 rfl ?_); refine bx (N := 3) (cs := #[.slice A1_0 l1_0.length c1_0]) (t := 30) ?_; intro gb389 hg w3 hbox hb; replace HO1_0 := AM (Kd.V_below (Kd.V_elderB (by exact HO1_0.out) gb389 (Nat.le_of_eq hg.symm)) hb); replace HB := AM (below_step (hI) hb); have BK389 := AM (hbox); have GW389 := AM ((by rw [hg]; exact (keep_size (w := w) (g := g) (row := none) (kI)) : w.heap.size ≤ gb389)); have GE389 := AM ((Nat.le_trans HW0.out (by rw [hg]; exact (keep_size (w := w) (g := g) (row := none) (kI)) : w.heap.size ≤ gb389) : w0.heap.size ≤ gb389)); replace HK := AM (KeepBut.trans (kI) (KeepBut.of_below hb g none) (.inl rfl)); have NB0_389 := AM ((by rw [hg]; exact Nat.ne_of_lt (IsS97.lt (show IsS97 w0 _ g s0_0 s0_1 s0_2 from sI)) : g ≠ gb389)); have NB389_0 := AM ((by rw [hg]; exact Nat.ne_of_gt (IsS97.lt (show IsS97 w0 _ g s0_0 s0_1 s0_2 from sI)) : gb389 ≠ g)); replace HI0 := AM (IsS97.below (sI) hb); clear hb hbox hg) | ((with_reducible refine gd 10 rfl ?_); refine Kd.R_lit k41 _ 41 ?hg (N := 10) ?hd (xs := ([] : List (S41))) (inner := []) (ok := fun _ => True) (okp := fun _ => True) ?hr ?hp (fun _ hk => hk) trivial (Below.refl _ _) (Nat.le_refl _) (by simp) ?_; (case hd => rfl); (case hg => rfl); (case hr => first | (go_simp; done) | (go_simp; rfl)); (case hp => exact (Reps.none _ _)); intro v391 w4 ho5 hb hg_ hnew_; clear hg_ hnew_; (first | rw [← Ny390.out] at ho5 | (simp only [Int.reduceToNat] at ho5; rw [← Ny390.out] at ho5)); replace HO1_0 := AM (Kd.V_elder' (by exact HO1_0.out) (Kd.R_base ho5) hb); have HO392 := AM (Kd.R_lower (Kd.R_newM (M := fun k_ => (w.heap.size ≤ k_)) ho5 (keep_size (w := w) (g := g) (row := none) (kI)) (fun k_ h_ => h_)) (keep_size (w := w) (g := g) (row := none) (kI))); replace BK389 := bw BK389 hb; replace HK := AM (KeepBut.trans (kI) (KeepBut.of_below hb g none) (.inl rfl)); replace HB := AM (below_step (hI) hb); replace HI0 := AM (IsS97.below (sI) hb); clear hb ho5))
 go_loopg [5, 6] k (fun kq v5 v6 w' => ∃ (x5_1 : List (S41)) (x6_1 : Int) (x1001_1 : Int) (x1002_1 : Int) (x390000_1 : List (S67)) (u390000 : Value), v6 = .int .i64 x6_1 ∧ Aside0 (spec_l03Acts.l0 kq x5_1 x6_1 s0_0 x1001_1 x1002_1 x390000_1 = some (r1, r2, r3)) ∧ Aside0 (kq ≤ k) ∧ Aside0 (Kd.R k41 41 w' w.heap.size (fun k_ => (w.heap.size ≤ k_)) v5 x5_1) ∧ Aside0 (Kd.V k67 67 w' w.heap.size (fun k_ => (P1_0_ k_ ∨ w.heap.size ≤ k_) ∧ some k_ ≠ (v5 : Value).ownBlock ∧ k_ ≠ gb389 ∧ k_ ≠ g) u390000 x390000_1) ∧ Aside0 (w'.heap[gb389]? = some (.cells #[u390000] 30 (0, 0))) ∧ Aside0 (IsS97 w0 w' g s0_0 x1001_1 x1002_1) ∧ Aside0 (KeepBut w w' g none) ∧ Aside0 (Below w0.heap.size w0 w'))
 case atStart => exact ⟨(y390), (0), (s0_1), (s0_2), (l1_0), (.slice A1_0 l1_0.length c1_0), sf, H', ⟨Nat.le_refl _⟩, ⟨by exact Kd.R_mono HO392.out (fun _ hk => hk.1)⟩, ⟨by exact Kd.V_mono HO1_0.out (fun _ hk => ⟨hk.1.1.1, ⟨hk.2, ⟨hk.1.2, hk.1.1.2⟩⟩⟩)⟩, ⟨bk BK389⟩, ⟨sI⟩, ⟨kI⟩, ⟨hI⟩⟩
 clear H'
 obtain ⟨x5_1, x6_1, x1001_1, x1002_1, x390000_1, u390000, rfl, HA, HK1, HO_5, HO_390000, BK389, HI0, HK, HB⟩ := hrel
 cases gk with
 | zero => exact absurd HA.out (by simp [spec_l03Acts.l0])
 | succ k1 =>
  have H := HA.out
  clear HA
  simp only [spec_l03Acts.l0] at H
  replace H := bm H
  obtain ⟨⟨t393, t394, t395⟩, A60, H⟩ := H
  replace H : (if x6_1 < t393 then ((spec_l03Act.f k1 s0_0 t394 t395).bind fun bt396 => ((spec_DoAct.f k1 x390000_1 bt396.1 bt396.2.1 bt396.2.2.1 bt396.2.2.2.1).bind fun bt403 => (if bt403.2 = true then (if x5_1.length < 2513169434916 then (spec_l03Acts.l0 k1 (x5_1 ++ [(⟨bt396.1, bt396.2.1, bt396.2.2.1, bt396.2.2.2.1⟩ : S41)]) (wrap64 (x6_1 + 1)) s0_0 bt396.2.2.2.2.1 bt396.2.2.2.2.2 bt403.1) else (none)) else ((spec_l01Once.f s0_0 bt396.2.2.2.2.1 bt396.2.2.2.2.2 20).bind fun bt411 => (if bt411.1 = true then (if x5_1.length < 2513169434916 then (spec_l03Acts.l0 k1 (x5_1 ++ [(⟨bt396.1, bt396.2.1, bt396.2.2.1, bt396.2.2.2.1⟩ : S41)]) (wrap64 (x6_1 + 1)) s0_0 bt411.2.1 bt411.2.2 bt403.1) else (none)) else (spec_l03Acts.l0 k1 x5_1 (wrap64 (x6_1 + 1)) s0_0 bt411.2.1 bt411.2.2 x390000_1)))))) else (some (x5_1, t394, t395))) = some (r1, r2, r3) := H
  have A6 := AM A60
  clear A60
  by_cases c7 : x6_1 < t393
  ·rw [if_pos c7] at H
   have c7b0 : decide (x6_1 < t393) = true := decide_eq_true c7
   clear c7
   replace H := bm H
   obtain ⟨⟨t396, t397, t398, t399, t400, t401⟩, A80, H⟩ := H
   replace H : ((spec_DoAct.f k1 x390000_1 t396 t397 t398 t399).bind fun bt403 => (if bt403.2 = true then (if x5_1.length < 2513169434916 then (spec_l03Acts.l0 k1 (x5_1 ++ [(⟨t396, t397, t398, t399⟩ : S41)]) (wrap64 (x6_1 + 1)) s0_0 t400 t401 bt403.1) else (none)) else ((spec_l01Once.f s0_0 t400 t401 20).bind fun bt411 => (if bt411.1 = true then (if x5_1.length < 2513169434916 then (spec_l03Acts.l0 k1 (x5_1 ++ [(⟨t396, t397, t398, t399⟩ : S41)]) (wrap64 (x6_1 + 1)) s0_0 bt411.2.1 bt411.2.2 bt403.1) else (none)) else (spec_l03Acts.l0 k1 x5_1 (wrap64 (x6_1 + 1)) s0_0 bt411.2.1 bt411.2.2 x390000_1))))) = some (r1, r2, r3) := H
   have A8 := AM A80
   clear A80
   replace H := bm H
   obtain ⟨⟨t403, t406⟩, A90, H⟩ := H
   replace H : (if t406 = true then (if x5_1.length < 2513169434916 then (spec_l03Acts.l0 k1 (x5_1 ++ [(⟨t396, t397, t398, t399⟩ : S41)]) (wrap64 (x6_1 + 1)) s0_0 t400 t401 t403) else (none)) else ((spec_l01Once.f s0_0 t400 t401 20).bind fun bt411 => (if bt411.1 = true then (if x5_1.length < 2513169434916 then (spec_l03Acts.l0 k1 (x5_1 ++ [(⟨t396, t397, t398, t399⟩ : S41)]) (wrap64 (x6_1 + 1)) s0_0 bt411.2.1 bt411.2.2 t403) else (none)) else (spec_l03Acts.l0 k1 x5_1 (wrap64 (x6_1 + 1)) s0_0 bt411.2.1 bt411.2.2 x390000_1)))) = some (r1, r2, r3) := H
   have A9 := AM A90
   clear A90
   by_cases c10 : t406 = true
   ·subst c10
    have H1 : (if x5_1.length < 2513169434916 then (spec_l03Acts.l0 k1 (x5_1 ++ [(⟨t396, t397, t398, t399⟩ : S41)]) (wrap64 (x6_1 + 1)) s0_0 t400 t401 t403) else (none)) = some (r1, r2, r3) := by rw [if_pos rfl] at H; exact H
    clear H
    have H := H1
    clear H1
    by_cases c11 : x5_1.length < 2513169434916
    ·rw [if_pos c11] at H
     have LMc11 := AM c11
     clear c11
     obtain ⟨y408, hy408⟩ : ∃ y_ : List (S41), y_ = (x5_1 ++ [(⟨t396, t397, t398, t399⟩ : S41)]) := ⟨_, rfl⟩
     replace H : (spec_l03Acts.l0 k1 y408 (wrap64 (x6_1 + 1)) s0_0 t400 t401 t403) = some (r1, r2, r3) := by first | (rw [hy408]; with_reducible exact H) | (have H2_ := (Option.bind_some _ _).symm.trans H; rw [hy408]; with_reducible exact H2_) | (have H2_ := (Option.bind_some _ _).symm.trans H; with_reducible exact H2_) | with_reducible exact H | (rw [hy408]; exact H) | exact H
     have Ny408 := AM hy408
     clear hy408
     have H' := AM H
     clear H
     go_wp2_with (first | ((with_reducible refine gc 71 rfl ?_); refine gl 13 Try.func71 #[.pointer (some ⟨g, 0, none⟩), .int .i64 9] ?_; (with_reducible refine (spec_l01Below.calls g s0_0 x1001_1 x1002_1 9 t393 t394 t395 w0 _ ?side1 ?side2 A6.out).mono ?_); (case side1 => exact sI); (case side2 => exact hI); rintro e w12 ⟨rfl, hi, hb, hk⟩; refine ⟨_, rfl, ?_⟩; replace HO_5 := AM (Kd.R_mono (Kd.R_keep (IsS97.apart (show IsS97 w0 _ g s0_0 x1001_1 x1002_1 from sI) (by exact HO_5.out) (by decide)) hk (fun _ h => h.2)) (fun _ h => h.1)); replace HO_390000 := AM (Kd.V_mono (Kd.V_keep (Kd.V_mono (ok := fun k_ => (((P1_0_ k_ ∨ w.heap.size ≤ k_)) ∧ (some k_ ≠ (u5 : Value).ownBlock ∧ (k_ ≠ gb389 ∧ k_ ≠ g)))) (by exact HO_390000.out) (fun k_ hk_ => (⟨hk_, hk_.2.2.2⟩ : _ ∧ k_ ≠ g))) hk (fun _ h => h.2)) (fun _ h => h.1)); replace BK389 := AM (KeepBut.blk hk (g' := gb389) (o := .cells #[u390000] 30 (0, 0)) (bk BK389) NB389_0.out (by simp)); replace HK := AM (KeepBut.trans (kI) hk (.inl rfl)); replace HB := AM (hb); replace HI0 := AM (hi); (try clear hb); (try clear hk); (try clear hi)) | ((with_reducible refine gc 78 rfl ?_); refine gl 18 Try.func78 #[.pointer (some ⟨g, 0, none⟩)] ?_; (with_reducible refine (spec_l03Act.calls k1 g s0_0 t394 t395 t396 t397 t398 t399 t400 t401 w0 _ ?side1 ?side2 A8.out).mono ?_); (case side1 => exact sI); (case side2 => exact hI); rintro e w13 ⟨rfl, hi, hb, hk⟩; refine ⟨_, rfl, ?_⟩; replace HO_5 := AM (Kd.R_mono (Kd.R_keep (IsS97.apart (show IsS97 w0 _ g s0_0 t394 t395 from sI) (by exact HO_5.out) (by decide)) hk (fun _ h => h.2)) (fun _ h => h.1)); replace HO_390000 := AM (Kd.V_mono (Kd.V_keep (Kd.V_mono (ok := fun k_ => (((P1_0_ k_ ∨ w.heap.size ≤ k_)) ∧ (some k_ ≠ (u5 : Value).ownBlock ∧ (k_ ≠ gb389 ∧ k_ ≠ g)))) (by exact HO_390000.out) (fun k_ hk_ => (⟨hk_, hk_.2.2.2⟩ : _ ∧ k_ ≠ g))) hk (fun _ h => h.2)) (fun _ h => h.1)); replace BK389 := AM (KeepBut.blk hk (g' := gb389) (o := .cells #[u390000] 30 (0, 0)) (bk BK389) NB389_0.out (by simp)); replace HK := AM (KeepBut.trans (kI) hk (.inl rfl)); replace HB := AM (hb); replace HI0 := AM (hi); (try clear hb); (try clear hk); (try clear hi)) | ((with_reducible refine gd 7 rfl ?_); refine bx (N := 7) (cs := #[.int .i64 0, .string (⟨#[]⟩ : ByteArray), .string (⟨#[]⟩ : ByteArray), .string (⟨#[]⟩ : ByteArray)]) (t := 41) ?_; intro gb402 hg w14 hbox hb; replace HO_5 := AM (Kd.R_below (Kd.R_elderB (by exact HO_5.out) gb402 (Nat.le_of_eq hg.symm)) hb); replace HO_390000 := AM (Kd.V_below (Kd.V_elderB (by exact HO_390000.out) gb402 (Nat.le_of_eq hg.symm)) hb); replace HB := AM (below_step (hI) hb); have BK402 := AM (hbox); have GW402 := AM ((by rw [hg]; exact (keep_size (w := w) (g := g) (row := none) (kI)) : w.heap.size ≤ gb402)); have GE402 := AM ((Nat.le_trans HW0.out (by rw [hg]; exact (keep_size (w := w) (g := g) (row := none) (kI)) : w.heap.size ≤ gb402) : w0.heap.size ≤ gb402)); replace HK := AM (KeepBut.trans (kI) (KeepBut.of_below hb g none) (.inl rfl)); have NB389_402 := AM (nl hg (bk BK389)); have NB402_389 := AM (ng hg (bk BK389)); replace BK389 := bw BK389 hb; have NB0_402 := AM ((by rw [hg]; exact Nat.ne_of_lt (IsS97.lt (show IsS97 w0 _ g s0_0 t400 t401 from sI)) : g ≠ gb402)); have NB402_0 := AM ((by rw [hg]; exact Nat.ne_of_gt (IsS97.lt (show IsS97 w0 _ g s0_0 t400 t401 from sI)) : gb402 ≠ g)); replace HI0 := AM (IsS97.below (sI) hb); clear hb hbox hg; have hnb15 := NB402_389.out; have hnc15 := NB389_402.out; have hnb16 := NB402_0.out; have hnc16 := NB0_402.out; have hcz17_0 := bv BK402 0 (.int .i64 0); have hcz17_1 := bv BK402 1 (.string (⟨#[]⟩ : ByteArray)); have hcz17_2 := bv BK402 2 (.string (⟨#[]⟩ : ByteArray)); have hcz17_3 := bv BK402 3 (.string (⟨#[]⟩ : ByteArray)); have hfz17_0 := bz BK402 0; have hfz17_1 := bz BK402 1; have hfz17_2 := bz BK402 2; have hfz17_3 := bz BK402 3; have hnb18 := NB389_0.out; have hnc18 := NB0_389.out; have hcz19_0 := bv BK389 0 (u390000); have hfz19_0 := bz BK389 0; obtain ⟨Ao20, co20, eo20⟩ := Kd.V_slice HO_390000.out; subst eo20) | ((with_reducible refine gc 17 rfl ?_); refine gl 22 Try.func17 #[.agg #[.slice Ao20 x390000_1.length co20], .agg #[.int .i64 t396, .string t397, .string t398, .string t399]] ?_; (with_reducible refine (spec_DoAct.calls k1 _ _ x390000_1 t396 t397 t398 t399 t403 true _ ?side1 ?side2 A9.out).mono ?_); (case side1 => refine (Kd.V_reads' (e := 67) (base := w.heap.size) (ok := fun k_ => (((P1_0_ k_ ∨ w.heap.size ≤ k_) ∧ (some k_ ≠ (u5 : Value).ownBlock ∧ (k_ ≠ gb389 ∧ k_ ≠ g))) ∧ k_ ≠ gb402)) (n := x390000_1.length) (c := co20) ?_).2.2; exact (by exact (Kd.V_mono (Kd.V_far (p := ⟨gb402, 3, none⟩) (Kd.V_far (p := ⟨gb402, 2, none⟩) (Kd.V_far (p := ⟨gb402, 1, none⟩) (Kd.V_far (p := ⟨gb402, 0, none⟩) (Kd.V_mono HO_390000.out (fun k_ hk => (⟨hk, hk.2⟩ : _ ∧ k_ ≠ gb402))) (fun _ hk => hk.2) (.int .i64 t396)) (fun _ hk => hk.2) (.string t397)) (fun _ hk => hk.2) (.string t398)) (fun _ hk => hk.2) (.string t399)) (fun _ h_ => h_.1)))); (case side2 => exact (Kd.V_reads' HO_390000.out).2.1); rintro e w21 ⟨v404, rfl, ho0, hb⟩; refine ⟨_, rfl, ?_⟩; replace HO_5 := AM (Kd.R_below (by exact (Kd.R_mono (Kd.R_far (p := ⟨gb402, 3, none⟩) (Kd.R_far (p := ⟨gb402, 2, none⟩) (Kd.R_far (p := ⟨gb402, 1, none⟩) (Kd.R_far (p := ⟨gb402, 0, none⟩) (Kd.R_mono HO_5.out (fun k_ hk => (⟨hk, hk.2⟩ : _ ∧ k_ ≠ gb402))) (fun _ hk => hk.2) (.int .i64 t396)) (fun _ hk => hk.2) (.string t397)) (fun _ hk => hk.2) (.string t398)) (fun _ hk => hk.2) (.string t399)) (fun _ h_ => h_.1))) hb); replace HO_390000 := AM (Kd.V_elder' (by exact (Kd.V_mono (Kd.V_far (p := ⟨gb402, 3, none⟩) (Kd.V_far (p := ⟨gb402, 2, none⟩) (Kd.V_far (p := ⟨gb402, 1, none⟩) (Kd.V_far (p := ⟨gb402, 0, none⟩) (Kd.V_mono HO_390000.out (fun k_ hk => (⟨hk, hk.2⟩ : _ ∧ k_ ≠ gb402))) (fun _ hk => hk.2) (.int .i64 t396)) (fun _ hk => hk.2) (.string t397)) (fun _ hk => hk.2) (.string t398)) (fun _ hk => hk.2) (.string t399)) (fun _ h_ => h_.1))) (Kd.R_base ho0) hb); have HO405 := AM (Kd.R_lower (Kd.R_newM (M := fun k_ => (w.heap.size ≤ k_)) ho0 (keep_size (w := w) (g := g) (row := none) (kI)) (fun k_ h_ => h_)) (keep_size (w := w) (g := g) (row := none) (kI))); replace BK389 := AM (blk_below (g := gb389) (o := .cells #[.slice Ao20 x390000_1.length co20] 30 (0, 0)) (be) hb); replace BK402 := AM (blk_below (g := gb402) (o := .cells #[.int .i64 t396, .string t397, .string t398, .string t399] 41 (0, 0)) (by (with_reducible repeat first | apply aN | apply aD | apply aA); refine blk_put (cs := #[.int .i64 t396, .string t397, .string t398, .string (⟨#[]⟩ : ByteArray)]) ?_ 3 _ rfl; (with_reducible repeat first | apply aN | apply aD | apply aA); refine blk_put (cs := #[.int .i64 t396, .string t397, .string (⟨#[]⟩ : ByteArray), .string (⟨#[]⟩ : ByteArray)]) ?_ 2 _ rfl; (with_reducible repeat first | apply aN | apply aD | apply aA); refine blk_put (cs := #[.int .i64 t396, .string (⟨#[]⟩ : ByteArray), .string (⟨#[]⟩ : ByteArray), .string (⟨#[]⟩ : ByteArray)]) ?_ 1 _ rfl; (with_reducible repeat first | apply aN | apply aD | apply aA); refine blk_put (cs := #[.int .i64 0, .string (⟨#[]⟩ : ByteArray), .string (⟨#[]⟩ : ByteArray), .string (⟨#[]⟩ : ByteArray)]) ?_ 0 _ rfl; exact bk BK402) hb); replace HK := AM (KeepBut.trans (kI) (KeepBut.of_below hb g none) (.inl rfl)); replace HB := AM (below_step (hI) hb); replace HI0 := AM (IsS97.below (show IsS97 w0 ((((w14.setCell ⟨gb402, 0, none⟩ (.int .i64 t396)).setCell ⟨gb402, 1, none⟩ (.string t397)).setCell ⟨gb402, 2, none⟩ (.string t398)).setCell ⟨gb402, 3, none⟩ (.string t399)) g s0_0 t400 t401 from sI) hb); (try clear hb); (try clear hk); (try clear ho0)) | ((with_reducible refine gd 8 rfl ?_); refine bx (N := 8) (cs := #[.slice none 0 0]) (t := 30) ?_; intro gb407 hg w22 hbox hb; replace HO_5 := AM (Kd.R_below (by exact HO_5.out) hb); replace HO_390000 := AM (Kd.V_below (Kd.V_elderB (by exact HO_390000.out) gb407 (Nat.le_of_eq hg.symm)) hb); replace HO405 := AM (Kd.R_below (by exact HO405.out) hb); replace HB := AM (below_step (hI) hb); have BK407 := AM (hbox); have GW407 := AM ((by rw [hg]; exact (keep_size (w := w) (g := g) (row := none) (kI)) : w.heap.size ≤ gb407)); have GE407 := AM ((Nat.le_trans HW0.out (by rw [hg]; exact (keep_size (w := w) (g := g) (row := none) (kI)) : w.heap.size ≤ gb407) : w0.heap.size ≤ gb407)); replace HK := AM (KeepBut.trans (kI) (KeepBut.of_below hb g none) (.inl rfl)); have NB389_407 := AM (nl hg (bk BK389)); have NB407_389 := AM (ng hg (bk BK389)); replace BK389 := bw BK389 hb; have NB402_407 := AM (nl hg (bk BK402)); have NB407_402 := AM (ng hg (bk BK402)); replace BK402 := bw BK402 hb; have NB0_407 := AM ((by rw [hg]; exact Nat.ne_of_lt (IsS97.lt (show IsS97 w0 _ g s0_0 t400 t401 from sI)) : g ≠ gb407)); have NB407_0 := AM ((by rw [hg]; exact Nat.ne_of_gt (IsS97.lt (show IsS97 w0 _ g s0_0 t400 t401 from sI)) : gb407 ≠ g)); replace HI0 := AM (IsS97.below (sI) hb); clear hb hbox hg; obtain ⟨Ao23, co23, eo23⟩ := Kd.R_slice HO405.out; subst eo23; have hnb24 := NB407_389.out; have hnc24 := NB389_407.out; have hnb25 := NB407_402.out; have hnc25 := NB402_407.out; have hnb26 := NB407_0.out; have hnc26 := NB0_407.out; have hcz27_0 := bv BK407 0 (.slice none 0 0); have hfz27_0 := bz BK407 0; have hcz28_0 := bv BK402 0 (.int .i64 t396); have hcz28_1 := bv BK402 1 (.string t397); have hcz28_2 := bv BK402 2 (.string t398); have hcz28_3 := bv BK402 3 (.string t399); have hfz28_0 := bz BK402 0; have hfz28_1 := bz BK402 1; have hfz28_2 := bz BK402 2; have hfz28_3 := bz BK402 3) | ((with_reducible refine gate_builtin (b := .append) (xs := #[.tmp 30, .tmp 32]) rfl ?_); at_builtin; refine Kd.R_append k41 w.heap.size rfl (.tmp 30) (.tmp 32) 49 41 (.agg #[(.int .i64 0), (.string ⟨#[]⟩), (.string ⟨#[]⟩), (.string ⟨#[]⟩)]) 56 rfl Try.underlying49 info41 rfl (by decide) (by omega) u5 x5_1 (⟨t396, t397, t398, t399⟩ : S41) [.int .i64 t396, .string t397, .string t398, .string t399] (fun k_ => (w.heap.size ≤ k_) ∧ k_ ≠ gb402) (fun _ => False) rfl (by first | (go_simp; done) | (go_simp; rfl)) ?aP (fun _ hk => hk.elim) ?aF ?aO (Below.refl _ _) ?aS ?aL ?_; (case aP => exact k41_mkM _ _ _ (⟨t396, t397, t398, t399⟩ : S41)); (case aF => exact (fun k_ hk => ⟨(Nat.le_trans (keep_size (w := w) (g := g) (row := none) (kI)) hk), Kd.freshB (g := gb402) (o := .cells #[.int .i64 t396, .string t397, .string t398, .string t399] 41 (0, 0)) (be) k_ hk⟩)); (case aO => exact (by exact Kd.R_mono (Kd.R_far (p := ⟨gb407, 0, none⟩) (Kd.R_types HO_5.out BK407.out (by decide)) (fun _ hk => hk.2) (.slice Ao23 t403.length co23)) (fun _ hk => ⟨hk.1.1, hk.1.2⟩))); (case aS => exact (keep_size (w := w) (g := g) (row := none) (kI))); (case aL => have := LMc11.out; omega); intro v409 w29 ho hb hg hat; rw [← Ny408.out] at ho; have n0_ := AM (Kd.V_afterv (ok := (fun k_ => (P1_0_ k_ ∨ w.heap.size ≤ k_) ∧ some k_ ≠ (.slice Ao23 t403.length co23 : Value).ownBlock ∧ k_ ≠ gb389 ∧ k_ ≠ g ∧ k_ ≠ gb402 ∧ k_ ≠ gb407)) (by exact Kd.V_mono (Kd.V_far (p := ⟨gb407, 0, none⟩) (Kd.V_mono HO_390000.out (fun k_ hk => (⟨hk, hk.2⟩ : _ ∧ k_ ≠ gb407))) (fun _ hk => hk.2) (.slice Ao23 t403.length co23)) (fun _ hk => ⟨⟨hk.1.1.1.1.1, ⟨hk.1.1.2, ⟨hk.1.1.1.1.2.2.1, ⟨hk.1.1.1.1.2.2.2, ⟨hk.1.1.1.2, hk.1.2⟩⟩⟩⟩⟩, hk.1.1.1.1.2.1⟩)) hg hat); have n1_ := AM (blk_grown (g := gb389) (o := .cells #[.slice Ao20 x390000_1.length co20] 30 (0, 0)) (be) hg (Kd.R_ne HO_5.out BK389.out (by decide))); have n2_ := AM (IsS97.grown (sI) hg (IsS97.own_ne HI0.out HO_5.out (by decide))); have n3_ := AM (blk_grown (g := gb402) (o := .cells #[.int .i64 t396, .string t397, .string t398, .string t399] 41 (0, 0)) (be) hg (Kd.R_away HO_5.out (fun _ hk => hk.2))); have n4_ := AM (Kd.R_over' (by exact (Kd.R_mono (Kd.R_far (p := ⟨gb407, 0, none⟩) (Kd.R_types HO405.out BK407.out (by decide)) (fun _ hk => hk.2) (.slice Ao23 t403.length co23)) (fun _ h_ => h_.1))) (Kd.R_typed (by exact (Kd.R_mono (Kd.R_far (p := ⟨gb407, 0, none⟩) (Kd.R_types HO_5.out BK407.out (by decide)) (fun _ hk => hk.2) (.slice Ao23 t403.length co23)) (fun _ h_ => h_.1)))) (by decide) hg); have n5_ := AM (blk_grown (g := gb407) (o := .cells #[.slice Ao23 t403.length co23] 30 (0, 0)) (bp #[.slice none 0 0] 0) hg (Kd.R_ne HO_5.out BK407.out (by decide))); have n6_ := AM (below_weaken (hI) HL.out hb); have n7_ := AM (KeepBut.trans (kI) (KeepBut.of_grown hg g) (Kd.R_base2 HO_5.out)); have n8_ := AM (ho); clear HO_390000; clear BK389; clear HI0; clear BK402; clear HO405; clear BK407; clear HB; clear HK; clear HO_5; have HO_390000 := n0_; have BK389 := n1_; have HI0 := n2_; have BK402 := n3_; have HO405 := n4_; have BK407 := n5_; have HB := n6_; have HK := n7_; have HO410 := n8_; clear n0_ n1_ n2_ n3_ n4_ n5_ n6_ n7_ n8_; clear ho hb hg hat; have hcz30_0 := bv BK407 0 (.slice Ao23 t403.length co23); have hfz30_0 := bz BK407 0; have hcz31_0 := bv BK389 0 (.slice Ao20 x390000_1.length co20); have hfz31_0 := bz BK389 0))
     go_roundg k1
     case measure => have := HK1.out; omega
     case rel => exact ⟨(y408), (wrap64 (x6_1 + 1)), (t400), (t401), (t403), (.slice Ao23 t403.length co23), sf, H', ⟨by have := HK1.out; omega⟩, ⟨by exact Kd.R_mono (Kd.R_far (p := ⟨gb389, 0, none⟩) (Kd.R_types HO410.out BK389.out (by decide)) (fun _ hk => hk.2) (.slice Ao23 t403.length co23)) (fun _ hk => hk.1.1)⟩, ⟨Kd.R_V (by exact Kd.R_mono (Kd.R_far (p := ⟨gb389, 0, none⟩) (Kd.R_types (IsS97.apart HI0.out (Kd.R_types (Kd.R_apart' HO405.out (Kd.R_typed HO410.out) (by decide)) BK389.out (by decide)) (by decide)) BK389.out (by decide)) (fun _ hk => hk.2) (.slice Ao23 t403.length co23)) (fun _ hk => ⟨.inr hk.1.1.1.1.1, ⟨hk.1.1.1.2, ⟨hk.1.1.2, hk.1.2⟩⟩⟩))⟩, ⟨bp #[.slice Ao20 x390000_1.length co20] 0⟩, ⟨sI⟩, ⟨kI⟩, ⟨hI⟩⟩
    rw [if_neg c11] at H
    exact absurd H (by simp)
   replace c10 := Bool.eq_false_iff.mpr c10
   subst c10
   have H1 : ((spec_l01Once.f s0_0 t400 t401 20).bind fun bt411 => (if bt411.1 = true then (if x5_1.length < 2513169434916 then (spec_l03Acts.l0 k1 (x5_1 ++ [(⟨t396, t397, t398, t399⟩ : S41)]) (wrap64 (x6_1 + 1)) s0_0 bt411.2.1 bt411.2.2 t403) else (none)) else (spec_l03Acts.l0 k1 x5_1 (wrap64 (x6_1 + 1)) s0_0 bt411.2.1 bt411.2.2 x390000_1))) = some (r1, r2, r3) := by rw [if_neg (show ¬ (false = true) by decide)] at H; exact H
   clear H
   have H := H1
   clear H1
   replace H := bm H
   obtain ⟨⟨t411, t412, t413⟩, A320, H⟩ := H
   replace H : (if t411 = true then (if x5_1.length < 2513169434916 then (spec_l03Acts.l0 k1 (x5_1 ++ [(⟨t396, t397, t398, t399⟩ : S41)]) (wrap64 (x6_1 + 1)) s0_0 t412 t413 t403) else (none)) else (spec_l03Acts.l0 k1 x5_1 (wrap64 (x6_1 + 1)) s0_0 t412 t413 x390000_1)) = some (r1, r2, r3) := H
   have A32 := AM A320
   clear A320
   by_cases c33 : t411 = true
   ·subst c33
    have H1 : (if x5_1.length < 2513169434916 then (spec_l03Acts.l0 k1 (x5_1 ++ [(⟨t396, t397, t398, t399⟩ : S41)]) (wrap64 (x6_1 + 1)) s0_0 t412 t413 t403) else (none)) = some (r1, r2, r3) := by rw [if_pos rfl] at H; exact H
    clear H
    have H := H1
    clear H1
    by_cases c34 : x5_1.length < 2513169434916
    ·rw [if_pos c34] at H
     have LMc34 := AM c34
     clear c34
     obtain ⟨y414, hy414⟩ : ∃ y_ : List (S41), y_ = (x5_1 ++ [(⟨t396, t397, t398, t399⟩ : S41)]) := ⟨_, rfl⟩
     replace H : (spec_l03Acts.l0 k1 y414 (wrap64 (x6_1 + 1)) s0_0 t412 t413 t403) = some (r1, r2, r3) := by first | (rw [hy414]; with_reducible exact H) | (have H2_ := (Option.bind_some _ _).symm.trans H; rw [hy414]; with_reducible exact H2_) | (have H2_ := (Option.bind_some _ _).symm.trans H; with_reducible exact H2_) | with_reducible exact H | (rw [hy414]; exact H) | exact H
     have Ny414 := AM hy414
     clear hy414
     have H' := AM H
     clear H
     go_wp2_with (first | ((with_reducible refine gc 71 rfl ?_); refine gl 13 Try.func71 #[.pointer (some ⟨g, 0, none⟩), .int .i64 9] ?_; (with_reducible refine (spec_l01Below.calls g s0_0 x1001_1 x1002_1 9 t393 t394 t395 w0 _ ?side1 ?side2 A6.out).mono ?_); (case side1 => exact sI); (case side2 => exact hI); rintro e w35 ⟨rfl, hi, hb, hk⟩; refine ⟨_, rfl, ?_⟩; replace HO_5 := AM (Kd.R_mono (Kd.R_keep (IsS97.apart (show IsS97 w0 _ g s0_0 x1001_1 x1002_1 from sI) (by exact HO_5.out) (by decide)) hk (fun _ h => h.2)) (fun _ h => h.1)); replace HO_390000 := AM (Kd.V_mono (Kd.V_keep (Kd.V_mono (ok := fun k_ => (((P1_0_ k_ ∨ w.heap.size ≤ k_)) ∧ (some k_ ≠ (u5 : Value).ownBlock ∧ (k_ ≠ gb389 ∧ k_ ≠ g)))) (by exact HO_390000.out) (fun k_ hk_ => (⟨hk_, hk_.2.2.2⟩ : _ ∧ k_ ≠ g))) hk (fun _ h => h.2)) (fun _ h => h.1)); replace BK389 := AM (KeepBut.blk hk (g' := gb389) (o := .cells #[u390000] 30 (0, 0)) (bk BK389) NB389_0.out (by simp)); replace HK := AM (KeepBut.trans (kI) hk (.inl rfl)); replace HB := AM (hb); replace HI0 := AM (hi); (try clear hb); (try clear hk); (try clear hi)) | ((with_reducible refine gc 78 rfl ?_); refine gl 18 Try.func78 #[.pointer (some ⟨g, 0, none⟩)] ?_; (with_reducible refine (spec_l03Act.calls k1 g s0_0 t394 t395 t396 t397 t398 t399 t400 t401 w0 _ ?side1 ?side2 A8.out).mono ?_); (case side1 => exact sI); (case side2 => exact hI); rintro e w36 ⟨rfl, hi, hb, hk⟩; refine ⟨_, rfl, ?_⟩; replace HO_5 := AM (Kd.R_mono (Kd.R_keep (IsS97.apart (show IsS97 w0 _ g s0_0 t394 t395 from sI) (by exact HO_5.out) (by decide)) hk (fun _ h => h.2)) (fun _ h => h.1)); replace HO_390000 := AM (Kd.V_mono (Kd.V_keep (Kd.V_mono (ok := fun k_ => (((P1_0_ k_ ∨ w.heap.size ≤ k_)) ∧ (some k_ ≠ (u5 : Value).ownBlock ∧ (k_ ≠ gb389 ∧ k_ ≠ g)))) (by exact HO_390000.out) (fun k_ hk_ => (⟨hk_, hk_.2.2.2⟩ : _ ∧ k_ ≠ g))) hk (fun _ h => h.2)) (fun _ h => h.1)); replace BK389 := AM (KeepBut.blk hk (g' := gb389) (o := .cells #[u390000] 30 (0, 0)) (bk BK389) NB389_0.out (by simp)); replace HK := AM (KeepBut.trans (kI) hk (.inl rfl)); replace HB := AM (hb); replace HI0 := AM (hi); (try clear hb); (try clear hk); (try clear hi)) | ((with_reducible refine gd 7 rfl ?_); refine bx (N := 7) (cs := #[.int .i64 0, .string (⟨#[]⟩ : ByteArray), .string (⟨#[]⟩ : ByteArray), .string (⟨#[]⟩ : ByteArray)]) (t := 41) ?_; intro gb402 hg w37 hbox hb; replace HO_5 := AM (Kd.R_below (Kd.R_elderB (by exact HO_5.out) gb402 (Nat.le_of_eq hg.symm)) hb); replace HO_390000 := AM (Kd.V_below (Kd.V_elderB (by exact HO_390000.out) gb402 (Nat.le_of_eq hg.symm)) hb); replace HB := AM (below_step (hI) hb); have BK402 := AM (hbox); have GW402 := AM ((by rw [hg]; exact (keep_size (w := w) (g := g) (row := none) (kI)) : w.heap.size ≤ gb402)); have GE402 := AM ((Nat.le_trans HW0.out (by rw [hg]; exact (keep_size (w := w) (g := g) (row := none) (kI)) : w.heap.size ≤ gb402) : w0.heap.size ≤ gb402)); replace HK := AM (KeepBut.trans (kI) (KeepBut.of_below hb g none) (.inl rfl)); have NB389_402 := AM (nl hg (bk BK389)); have NB402_389 := AM (ng hg (bk BK389)); replace BK389 := bw BK389 hb; have NB0_402 := AM ((by rw [hg]; exact Nat.ne_of_lt (IsS97.lt (show IsS97 w0 _ g s0_0 t400 t401 from sI)) : g ≠ gb402)); have NB402_0 := AM ((by rw [hg]; exact Nat.ne_of_gt (IsS97.lt (show IsS97 w0 _ g s0_0 t400 t401 from sI)) : gb402 ≠ g)); replace HI0 := AM (IsS97.below (sI) hb); clear hb hbox hg; have hnb38 := NB402_389.out; have hnc38 := NB389_402.out; have hnb39 := NB402_0.out; have hnc39 := NB0_402.out; have hcz40_0 := bv BK402 0 (.int .i64 0); have hcz40_1 := bv BK402 1 (.string (⟨#[]⟩ : ByteArray)); have hcz40_2 := bv BK402 2 (.string (⟨#[]⟩ : ByteArray)); have hcz40_3 := bv BK402 3 (.string (⟨#[]⟩ : ByteArray)); have hfz40_0 := bz BK402 0; have hfz40_1 := bz BK402 1; have hfz40_2 := bz BK402 2; have hfz40_3 := bz BK402 3; have hnb41 := NB389_0.out; have hnc41 := NB0_389.out; have hcz42_0 := bv BK389 0 (u390000); have hfz42_0 := bz BK389 0; obtain ⟨Ao43, co43, eo43⟩ := Kd.V_slice HO_390000.out; subst eo43) | ((with_reducible refine gc 17 rfl ?_); refine gl 22 Try.func17 #[.agg #[.slice Ao43 x390000_1.length co43], .agg #[.int .i64 t396, .string t397, .string t398, .string t399]] ?_; (with_reducible refine (spec_DoAct.calls k1 _ _ x390000_1 t396 t397 t398 t399 t403 false _ ?side1 ?side2 A9.out).mono ?_); (case side1 => refine (Kd.V_reads' (e := 67) (base := w.heap.size) (ok := fun k_ => (((P1_0_ k_ ∨ w.heap.size ≤ k_) ∧ (some k_ ≠ (u5 : Value).ownBlock ∧ (k_ ≠ gb389 ∧ k_ ≠ g))) ∧ k_ ≠ gb402)) (n := x390000_1.length) (c := co43) ?_).2.2; exact (by exact (Kd.V_mono (Kd.V_far (p := ⟨gb402, 3, none⟩) (Kd.V_far (p := ⟨gb402, 2, none⟩) (Kd.V_far (p := ⟨gb402, 1, none⟩) (Kd.V_far (p := ⟨gb402, 0, none⟩) (Kd.V_mono HO_390000.out (fun k_ hk => (⟨hk, hk.2⟩ : _ ∧ k_ ≠ gb402))) (fun _ hk => hk.2) (.int .i64 t396)) (fun _ hk => hk.2) (.string t397)) (fun _ hk => hk.2) (.string t398)) (fun _ hk => hk.2) (.string t399)) (fun _ h_ => h_.1)))); (case side2 => exact (Kd.V_reads' HO_390000.out).2.1); rintro e w44 ⟨v404, rfl, ho0, hb⟩; refine ⟨_, rfl, ?_⟩; replace HO_5 := AM (Kd.R_below (by exact (Kd.R_mono (Kd.R_far (p := ⟨gb402, 3, none⟩) (Kd.R_far (p := ⟨gb402, 2, none⟩) (Kd.R_far (p := ⟨gb402, 1, none⟩) (Kd.R_far (p := ⟨gb402, 0, none⟩) (Kd.R_mono HO_5.out (fun k_ hk => (⟨hk, hk.2⟩ : _ ∧ k_ ≠ gb402))) (fun _ hk => hk.2) (.int .i64 t396)) (fun _ hk => hk.2) (.string t397)) (fun _ hk => hk.2) (.string t398)) (fun _ hk => hk.2) (.string t399)) (fun _ h_ => h_.1))) hb); replace HO_390000 := AM (Kd.V_elder' (by exact (Kd.V_mono (Kd.V_far (p := ⟨gb402, 3, none⟩) (Kd.V_far (p := ⟨gb402, 2, none⟩) (Kd.V_far (p := ⟨gb402, 1, none⟩) (Kd.V_far (p := ⟨gb402, 0, none⟩) (Kd.V_mono HO_390000.out (fun k_ hk => (⟨hk, hk.2⟩ : _ ∧ k_ ≠ gb402))) (fun _ hk => hk.2) (.int .i64 t396)) (fun _ hk => hk.2) (.string t397)) (fun _ hk => hk.2) (.string t398)) (fun _ hk => hk.2) (.string t399)) (fun _ h_ => h_.1))) (Kd.R_base ho0) hb); have HO405 := AM (Kd.R_lower (Kd.R_newM (M := fun k_ => (w.heap.size ≤ k_)) ho0 (keep_size (w := w) (g := g) (row := none) (kI)) (fun k_ h_ => h_)) (keep_size (w := w) (g := g) (row := none) (kI))); replace BK389 := AM (blk_below (g := gb389) (o := .cells #[.slice Ao43 x390000_1.length co43] 30 (0, 0)) (be) hb); replace BK402 := AM (blk_below (g := gb402) (o := .cells #[.int .i64 t396, .string t397, .string t398, .string t399] 41 (0, 0)) (by (with_reducible repeat first | apply aN | apply aD | apply aA); refine blk_put (cs := #[.int .i64 t396, .string t397, .string t398, .string (⟨#[]⟩ : ByteArray)]) ?_ 3 _ rfl; (with_reducible repeat first | apply aN | apply aD | apply aA); refine blk_put (cs := #[.int .i64 t396, .string t397, .string (⟨#[]⟩ : ByteArray), .string (⟨#[]⟩ : ByteArray)]) ?_ 2 _ rfl; (with_reducible repeat first | apply aN | apply aD | apply aA); refine blk_put (cs := #[.int .i64 t396, .string (⟨#[]⟩ : ByteArray), .string (⟨#[]⟩ : ByteArray), .string (⟨#[]⟩ : ByteArray)]) ?_ 1 _ rfl; (with_reducible repeat first | apply aN | apply aD | apply aA); refine blk_put (cs := #[.int .i64 0, .string (⟨#[]⟩ : ByteArray), .string (⟨#[]⟩ : ByteArray), .string (⟨#[]⟩ : ByteArray)]) ?_ 0 _ rfl; exact bk BK402) hb); replace HK := AM (KeepBut.trans (kI) (KeepBut.of_below hb g none) (.inl rfl)); replace HB := AM (below_step (hI) hb); replace HI0 := AM (IsS97.below (show IsS97 w0 ((((w37.setCell ⟨gb402, 0, none⟩ (.int .i64 t396)).setCell ⟨gb402, 1, none⟩ (.string t397)).setCell ⟨gb402, 2, none⟩ (.string t398)).setCell ⟨gb402, 3, none⟩ (.string t399)) g s0_0 t400 t401 from sI) hb); (try clear hb); (try clear hk); (try clear ho0)) | ((with_reducible refine gd 8 rfl ?_); refine bx (N := 8) (cs := #[.slice none 0 0]) (t := 30) ?_; intro gb407 hg w45 hbox hb; replace HO_5 := AM (Kd.R_below (by exact HO_5.out) hb); replace HO_390000 := AM (Kd.V_below (Kd.V_elderB (by exact HO_390000.out) gb407 (Nat.le_of_eq hg.symm)) hb); replace HO405 := AM (Kd.R_below (by exact HO405.out) hb); replace HB := AM (below_step (hI) hb); have BK407 := AM (hbox); have GW407 := AM ((by rw [hg]; exact (keep_size (w := w) (g := g) (row := none) (kI)) : w.heap.size ≤ gb407)); have GE407 := AM ((Nat.le_trans HW0.out (by rw [hg]; exact (keep_size (w := w) (g := g) (row := none) (kI)) : w.heap.size ≤ gb407) : w0.heap.size ≤ gb407)); replace HK := AM (KeepBut.trans (kI) (KeepBut.of_below hb g none) (.inl rfl)); have NB389_407 := AM (nl hg (bk BK389)); have NB407_389 := AM (ng hg (bk BK389)); replace BK389 := bw BK389 hb; have NB402_407 := AM (nl hg (bk BK402)); have NB407_402 := AM (ng hg (bk BK402)); replace BK402 := bw BK402 hb; have NB0_407 := AM ((by rw [hg]; exact Nat.ne_of_lt (IsS97.lt (show IsS97 w0 _ g s0_0 t400 t401 from sI)) : g ≠ gb407)); have NB407_0 := AM ((by rw [hg]; exact Nat.ne_of_gt (IsS97.lt (show IsS97 w0 _ g s0_0 t400 t401 from sI)) : gb407 ≠ g)); replace HI0 := AM (IsS97.below (sI) hb); clear hb hbox hg; obtain ⟨Ao46, co46, eo46⟩ := Kd.R_slice HO405.out; subst eo46; have hnb47 := NB407_389.out; have hnc47 := NB389_407.out; have hnb48 := NB407_402.out; have hnc48 := NB402_407.out; have hnb49 := NB407_0.out; have hnc49 := NB0_407.out; have hcz50_0 := bv BK407 0 (.slice none 0 0); have hfz50_0 := bz BK407 0) | (go_at_call 79; (with_reducible refine (spec_l01Once.calls g s0_0 t400 t401 20 true t412 t413 w0 _ ?side1 ?side2 A32.out).mono ?_); (case side1 => exact sI); (case side2 => exact hI); rintro e w51 ⟨rfl, hi, hb, hk⟩; have n0_ := AM (Kd.R_mono (Kd.R_keep (IsS97.apart (show IsS97 w0 _ g s0_0 t400 t401 from sI) (by exact (Kd.R_mono (Kd.R_far (p := ⟨gb407, 0, none⟩) (Kd.R_types HO_5.out BK407.out (by decide)) (fun _ hk => hk.2) (.slice Ao46 t403.length co46)) (fun _ h_ => h_.1))) (by decide)) hk (fun _ h => h.2)) (fun _ h => h.1)); have n1_ := AM (Kd.V_mono (Kd.V_keep (Kd.V_mono (ok := fun k_ => ((((((P1_0_ k_ ∨ w.heap.size ≤ k_)) ∧ (some k_ ≠ (u5 : Value).ownBlock ∧ (k_ ≠ gb389 ∧ k_ ≠ g))) ∧ k_ ≠ gb402) ∧ some k_ ≠ (.slice Ao46 t403.length co46 : Value).ownBlock) ∧ k_ ≠ gb407)) (by exact (Kd.V_mono (Kd.V_far (p := ⟨gb407, 0, none⟩) (Kd.V_mono HO_390000.out (fun k_ hk => (⟨hk, hk.2⟩ : _ ∧ k_ ≠ gb407))) (fun _ hk => hk.2) (.slice Ao46 t403.length co46)) (fun _ h_ => h_.1))) (fun k_ hk_ => (⟨hk_, hk_.1.1.1.2.2.2⟩ : _ ∧ k_ ≠ g))) hk (fun _ h => h.2)) (fun _ h => h.1)); have n2_ := AM (KeepBut.blk hk (g' := gb389) (o := .cells #[.slice Ao43 x390000_1.length co43] 30 (0, 0)) (be) NB389_0.out (by simp)); have n3_ := AM (KeepBut.blk hk (g' := gb402) (o := .cells #[.int .i64 t396, .string t397, .string t398, .string t399] 41 (0, 0)) (be) NB402_0.out (by simp)); have n4_ := AM (Kd.R_mono (Kd.R_keep (IsS97.apart (show IsS97 w0 _ g s0_0 t400 t401 from sI) (by exact (Kd.R_mono (Kd.R_far (p := ⟨gb407, 0, none⟩) (Kd.R_types HO405.out BK407.out (by decide)) (fun _ hk => hk.2) (.slice Ao46 t403.length co46)) (fun _ h_ => h_.1))) (by decide)) hk (fun _ h => h.2)) (fun _ h => h.1)); have n5_ := AM (KeepBut.blk hk (g' := gb407) (o := .cells #[.slice Ao46 t403.length co46] 30 (0, 0)) (bp #[.slice none 0 0] 0) NB407_0.out (by simp)); have n6_ := AM (KeepBut.trans (kI) hk (.inl rfl)); have n7_ := AM (hb); have n8_ := AM (hi); clear HO_5; clear HO_390000; clear BK389; clear BK402; clear HO405; clear BK407; clear HK; clear HB; clear HI0; have HO_5 := n0_; have HO_390000 := n1_; have BK389 := n2_; have BK402 := n3_; have HO405 := n4_; have BK407 := n5_; have HK := n6_; have HB := n7_; have HI0 := n8_; clear n0_ n1_ n2_ n3_ n4_ n5_ n6_ n7_ n8_; (try clear hb); (try clear hk); (try clear hi); have hcz52_0 := bv BK402 0 (.int .i64 t396); have hcz52_1 := bv BK402 1 (.string t397); have hcz52_2 := bv BK402 2 (.string t398); have hcz52_3 := bv BK402 3 (.string t399); have hfz52_0 := bz BK402 0; have hfz52_1 := bz BK402 1; have hfz52_2 := bz BK402 2; have hfz52_3 := bz BK402 3) | ((with_reducible refine gate_builtin (b := .append) (xs := #[.tmp 30, .tmp 32]) rfl ?_); at_builtin; refine Kd.R_append k41 w.heap.size rfl (.tmp 30) (.tmp 32) 49 41 (.agg #[(.int .i64 0), (.string ⟨#[]⟩), (.string ⟨#[]⟩), (.string ⟨#[]⟩)]) 56 rfl Try.underlying49 info41 rfl (by decide) (by omega) u5 x5_1 (⟨t396, t397, t398, t399⟩ : S41) [.int .i64 t396, .string t397, .string t398, .string t399] (fun k_ => (w.heap.size ≤ k_) ∧ k_ ≠ gb402) (fun _ => False) rfl rfl ?aP (fun _ hk => hk.elim) ?aF ?aO (Below.refl _ _) ?aS ?aL ?_; (case aP => exact k41_mkM _ _ _ (⟨t396, t397, t398, t399⟩ : S41)); (case aF => exact (fun k_ hk => ⟨(Nat.le_trans (keep_size (w := w) (g := g) (row := none) (kI)) hk), Kd.freshB (g := gb402) (o := .cells #[.int .i64 t396, .string t397, .string t398, .string t399] 41 (0, 0)) (bk BK402) k_ hk⟩)); (case aO => exact (by exact HO_5.out)); (case aS => exact (keep_size (w := w) (g := g) (row := none) (kI))); (case aL => have := LMc34.out; omega); intro v415 w53 ho hb hg hat; rw [← Ny414.out] at ho; replace HO_390000 := AM (Kd.V_afterv (ok := (fun k_ => (P1_0_ k_ ∨ w.heap.size ≤ k_) ∧ some k_ ≠ (.slice Ao46 t403.length co46 : Value).ownBlock ∧ k_ ≠ gb389 ∧ k_ ≠ g ∧ k_ ≠ gb402 ∧ k_ ≠ gb407)) (by exact Kd.V_mono HO_390000.out (fun _ hk => ⟨⟨hk.1.1.1.1, ⟨hk.1.2, ⟨hk.1.1.1.2.2.1, ⟨hk.1.1.1.2.2.2, ⟨hk.1.1.2, hk.2⟩⟩⟩⟩⟩, hk.1.1.1.2.1⟩)) hg hat); replace BK389 := AM (blk_grown (g := gb389) (o := .cells #[.slice Ao43 x390000_1.length co43] 30 (0, 0)) (bk BK389) hg (Kd.R_ne HO_5.out BK389.out (by decide))); replace BK402 := AM (blk_grown (g := gb402) (o := .cells #[.int .i64 t396, .string t397, .string t398, .string t399] 41 (0, 0)) (bk BK402) hg (Kd.R_away HO_5.out (fun _ hk => hk.2))); replace HO405 := AM (Kd.R_over' (by exact HO405.out) (Kd.R_typed (by exact HO_5.out)) (by decide) hg); replace BK407 := AM (blk_grown (g := gb407) (o := .cells #[.slice Ao46 t403.length co46] 30 (0, 0)) (bk BK407) hg (Kd.R_ne HO_5.out BK407.out (by decide))); replace HB := AM (below_weaken (hI) HL.out hb); replace HI0 := AM (IsS97.grown (sI) hg (IsS97.own_ne HI0.out HO_5.out (by decide))); replace HK := AM (KeepBut.trans (kI) (KeepBut.of_grown hg g) (Kd.R_base2 HO_5.out)); have HO416 := AM (ho); clear HO_5; clear ho hb hg hat; have hcz54_0 := bv BK407 0 (.slice Ao46 t403.length co46); have hfz54_0 := bz BK407 0; have hcz55_0 := bv BK389 0 (.slice Ao43 x390000_1.length co43); have hfz55_0 := bz BK389 0))
     go_roundg k1
     case measure => have := HK1.out; omega
     case rel => exact ⟨(y414), (wrap64 (x6_1 + 1)), (t412), (t413), (t403), (.slice Ao46 t403.length co46), sf, H', ⟨by have := HK1.out; omega⟩, ⟨by exact Kd.R_mono (Kd.R_far (p := ⟨gb389, 0, none⟩) (Kd.R_types HO416.out BK389.out (by decide)) (fun _ hk => hk.2) (.slice Ao46 t403.length co46)) (fun _ hk => hk.1.1)⟩, ⟨Kd.R_V (by exact Kd.R_mono (Kd.R_far (p := ⟨gb389, 0, none⟩) (Kd.R_types (IsS97.apart HI0.out (Kd.R_types (Kd.R_apart' HO405.out (Kd.R_typed HO416.out) (by decide)) BK389.out (by decide)) (by decide)) BK389.out (by decide)) (fun _ hk => hk.2) (.slice Ao46 t403.length co46)) (fun _ hk => ⟨.inr hk.1.1.1.1.1, ⟨hk.1.1.1.2, ⟨hk.1.1.2, hk.1.2⟩⟩⟩))⟩, ⟨bp #[.slice Ao43 x390000_1.length co43] 0⟩, ⟨sI⟩, ⟨kI⟩, ⟨hI⟩⟩
    rw [if_neg c34] at H
    exact absurd H (by simp)
   replace c33 := Bool.eq_false_iff.mpr c33
   subst c33
   have H1 : (spec_l03Acts.l0 k1 x5_1 (wrap64 (x6_1 + 1)) s0_0 t412 t413 x390000_1) = some (r1, r2, r3) := by rw [if_neg (show ¬ (false = true) by decide)] at H; exact H
   clear H
   have H := H1
   clear H1
   have H' := AM H
   clear H
   go_wp2_with (first | ((with_reducible refine gc 71 rfl ?_); refine gl 13 Try.func71 #[.pointer (some ⟨g, 0, none⟩), .int .i64 9] ?_; (with_reducible refine (spec_l01Below.calls g s0_0 x1001_1 x1002_1 9 t393 t394 t395 w0 _ ?side1 ?side2 A6.out).mono ?_); (case side1 => exact sI); (case side2 => exact hI); rintro e w56 ⟨rfl, hi, hb, hk⟩; refine ⟨_, rfl, ?_⟩; replace HO_5 := AM (Kd.R_mono (Kd.R_keep (IsS97.apart (show IsS97 w0 _ g s0_0 x1001_1 x1002_1 from sI) (by exact HO_5.out) (by decide)) hk (fun _ h => h.2)) (fun _ h => h.1)); replace HO_390000 := AM (Kd.V_mono (Kd.V_keep (Kd.V_mono (ok := fun k_ => (((P1_0_ k_ ∨ w.heap.size ≤ k_)) ∧ (some k_ ≠ (u5 : Value).ownBlock ∧ (k_ ≠ gb389 ∧ k_ ≠ g)))) (by exact HO_390000.out) (fun k_ hk_ => (⟨hk_, hk_.2.2.2⟩ : _ ∧ k_ ≠ g))) hk (fun _ h => h.2)) (fun _ h => h.1)); replace BK389 := AM (KeepBut.blk hk (g' := gb389) (o := .cells #[u390000] 30 (0, 0)) (bk BK389) NB389_0.out (by simp)); replace HK := AM (KeepBut.trans (kI) hk (.inl rfl)); replace HB := AM (hb); replace HI0 := AM (hi); (try clear hb); (try clear hk); (try clear hi)) | ((with_reducible refine gc 78 rfl ?_); refine gl 18 Try.func78 #[.pointer (some ⟨g, 0, none⟩)] ?_; (with_reducible refine (spec_l03Act.calls k1 g s0_0 t394 t395 t396 t397 t398 t399 t400 t401 w0 _ ?side1 ?side2 A8.out).mono ?_); (case side1 => exact sI); (case side2 => exact hI); rintro e w57 ⟨rfl, hi, hb, hk⟩; refine ⟨_, rfl, ?_⟩; replace HO_5 := AM (Kd.R_mono (Kd.R_keep (IsS97.apart (show IsS97 w0 _ g s0_0 t394 t395 from sI) (by exact HO_5.out) (by decide)) hk (fun _ h => h.2)) (fun _ h => h.1)); replace HO_390000 := AM (Kd.V_mono (Kd.V_keep (Kd.V_mono (ok := fun k_ => (((P1_0_ k_ ∨ w.heap.size ≤ k_)) ∧ (some k_ ≠ (u5 : Value).ownBlock ∧ (k_ ≠ gb389 ∧ k_ ≠ g)))) (by exact HO_390000.out) (fun k_ hk_ => (⟨hk_, hk_.2.2.2⟩ : _ ∧ k_ ≠ g))) hk (fun _ h => h.2)) (fun _ h => h.1)); replace BK389 := AM (KeepBut.blk hk (g' := gb389) (o := .cells #[u390000] 30 (0, 0)) (bk BK389) NB389_0.out (by simp)); replace HK := AM (KeepBut.trans (kI) hk (.inl rfl)); replace HB := AM (hb); replace HI0 := AM (hi); (try clear hb); (try clear hk); (try clear hi)) | ((with_reducible refine gd 7 rfl ?_); refine bx (N := 7) (cs := #[.int .i64 0, .string (⟨#[]⟩ : ByteArray), .string (⟨#[]⟩ : ByteArray), .string (⟨#[]⟩ : ByteArray)]) (t := 41) ?_; intro gb402 hg w58 hbox hb; replace HO_5 := AM (Kd.R_below (Kd.R_elderB (by exact HO_5.out) gb402 (Nat.le_of_eq hg.symm)) hb); replace HO_390000 := AM (Kd.V_below (Kd.V_elderB (by exact HO_390000.out) gb402 (Nat.le_of_eq hg.symm)) hb); replace HB := AM (below_step (hI) hb); have BK402 := AM (hbox); have GW402 := AM ((by rw [hg]; exact (keep_size (w := w) (g := g) (row := none) (kI)) : w.heap.size ≤ gb402)); have GE402 := AM ((Nat.le_trans HW0.out (by rw [hg]; exact (keep_size (w := w) (g := g) (row := none) (kI)) : w.heap.size ≤ gb402) : w0.heap.size ≤ gb402)); replace HK := AM (KeepBut.trans (kI) (KeepBut.of_below hb g none) (.inl rfl)); have NB389_402 := AM (nl hg (bk BK389)); have NB402_389 := AM (ng hg (bk BK389)); replace BK389 := bw BK389 hb; have NB0_402 := AM ((by rw [hg]; exact Nat.ne_of_lt (IsS97.lt (show IsS97 w0 _ g s0_0 t400 t401 from sI)) : g ≠ gb402)); have NB402_0 := AM ((by rw [hg]; exact Nat.ne_of_gt (IsS97.lt (show IsS97 w0 _ g s0_0 t400 t401 from sI)) : gb402 ≠ g)); replace HI0 := AM (IsS97.below (sI) hb); clear hb hbox hg; have hnb59 := NB402_389.out; have hnc59 := NB389_402.out; have hnb60 := NB402_0.out; have hnc60 := NB0_402.out; have hcz61_0 := bv BK402 0 (.int .i64 0); have hcz61_1 := bv BK402 1 (.string (⟨#[]⟩ : ByteArray)); have hcz61_2 := bv BK402 2 (.string (⟨#[]⟩ : ByteArray)); have hcz61_3 := bv BK402 3 (.string (⟨#[]⟩ : ByteArray)); have hfz61_0 := bz BK402 0; have hfz61_1 := bz BK402 1; have hfz61_2 := bz BK402 2; have hfz61_3 := bz BK402 3; have hnb62 := NB389_0.out; have hnc62 := NB0_389.out; have hcz63_0 := bv BK389 0 (u390000); have hfz63_0 := bz BK389 0; obtain ⟨Ao64, co64, eo64⟩ := Kd.V_slice HO_390000.out; subst eo64) | ((with_reducible refine gc 17 rfl ?_); refine gl 22 Try.func17 #[.agg #[.slice Ao64 x390000_1.length co64], .agg #[.int .i64 t396, .string t397, .string t398, .string t399]] ?_; (with_reducible refine (spec_DoAct.calls k1 _ _ x390000_1 t396 t397 t398 t399 t403 false _ ?side1 ?side2 A9.out).mono ?_); (case side1 => refine (Kd.V_reads' (e := 67) (base := w.heap.size) (ok := fun k_ => (((P1_0_ k_ ∨ w.heap.size ≤ k_) ∧ (some k_ ≠ (u5 : Value).ownBlock ∧ (k_ ≠ gb389 ∧ k_ ≠ g))) ∧ k_ ≠ gb402)) (n := x390000_1.length) (c := co64) ?_).2.2; exact (by exact (Kd.V_mono (Kd.V_far (p := ⟨gb402, 3, none⟩) (Kd.V_far (p := ⟨gb402, 2, none⟩) (Kd.V_far (p := ⟨gb402, 1, none⟩) (Kd.V_far (p := ⟨gb402, 0, none⟩) (Kd.V_mono HO_390000.out (fun k_ hk => (⟨hk, hk.2⟩ : _ ∧ k_ ≠ gb402))) (fun _ hk => hk.2) (.int .i64 t396)) (fun _ hk => hk.2) (.string t397)) (fun _ hk => hk.2) (.string t398)) (fun _ hk => hk.2) (.string t399)) (fun _ h_ => h_.1)))); (case side2 => exact (Kd.V_reads' HO_390000.out).2.1); rintro e w65 ⟨v404, rfl, ho0, hb⟩; refine ⟨_, rfl, ?_⟩; replace HO_5 := AM (Kd.R_below (by exact (Kd.R_mono (Kd.R_far (p := ⟨gb402, 3, none⟩) (Kd.R_far (p := ⟨gb402, 2, none⟩) (Kd.R_far (p := ⟨gb402, 1, none⟩) (Kd.R_far (p := ⟨gb402, 0, none⟩) (Kd.R_mono HO_5.out (fun k_ hk => (⟨hk, hk.2⟩ : _ ∧ k_ ≠ gb402))) (fun _ hk => hk.2) (.int .i64 t396)) (fun _ hk => hk.2) (.string t397)) (fun _ hk => hk.2) (.string t398)) (fun _ hk => hk.2) (.string t399)) (fun _ h_ => h_.1))) hb); replace HO_390000 := AM (Kd.V_elder' (by exact (Kd.V_mono (Kd.V_far (p := ⟨gb402, 3, none⟩) (Kd.V_far (p := ⟨gb402, 2, none⟩) (Kd.V_far (p := ⟨gb402, 1, none⟩) (Kd.V_far (p := ⟨gb402, 0, none⟩) (Kd.V_mono HO_390000.out (fun k_ hk => (⟨hk, hk.2⟩ : _ ∧ k_ ≠ gb402))) (fun _ hk => hk.2) (.int .i64 t396)) (fun _ hk => hk.2) (.string t397)) (fun _ hk => hk.2) (.string t398)) (fun _ hk => hk.2) (.string t399)) (fun _ h_ => h_.1))) (Kd.R_base ho0) hb); have HO405 := AM (Kd.R_lower (Kd.R_newM (M := fun k_ => (w.heap.size ≤ k_)) ho0 (keep_size (w := w) (g := g) (row := none) (kI)) (fun k_ h_ => h_)) (keep_size (w := w) (g := g) (row := none) (kI))); replace BK389 := AM (blk_below (g := gb389) (o := .cells #[.slice Ao64 x390000_1.length co64] 30 (0, 0)) (be) hb); replace BK402 := AM (blk_below (g := gb402) (o := .cells #[.int .i64 t396, .string t397, .string t398, .string t399] 41 (0, 0)) (by (with_reducible repeat first | apply aN | apply aD | apply aA); refine blk_put (cs := #[.int .i64 t396, .string t397, .string t398, .string (⟨#[]⟩ : ByteArray)]) ?_ 3 _ rfl; (with_reducible repeat first | apply aN | apply aD | apply aA); refine blk_put (cs := #[.int .i64 t396, .string t397, .string (⟨#[]⟩ : ByteArray), .string (⟨#[]⟩ : ByteArray)]) ?_ 2 _ rfl; (with_reducible repeat first | apply aN | apply aD | apply aA); refine blk_put (cs := #[.int .i64 t396, .string (⟨#[]⟩ : ByteArray), .string (⟨#[]⟩ : ByteArray), .string (⟨#[]⟩ : ByteArray)]) ?_ 1 _ rfl; (with_reducible repeat first | apply aN | apply aD | apply aA); refine blk_put (cs := #[.int .i64 0, .string (⟨#[]⟩ : ByteArray), .string (⟨#[]⟩ : ByteArray), .string (⟨#[]⟩ : ByteArray)]) ?_ 0 _ rfl; exact bk BK402) hb); replace HK := AM (KeepBut.trans (kI) (KeepBut.of_below hb g none) (.inl rfl)); replace HB := AM (below_step (hI) hb); replace HI0 := AM (IsS97.below (show IsS97 w0 ((((w58.setCell ⟨gb402, 0, none⟩ (.int .i64 t396)).setCell ⟨gb402, 1, none⟩ (.string t397)).setCell ⟨gb402, 2, none⟩ (.string t398)).setCell ⟨gb402, 3, none⟩ (.string t399)) g s0_0 t400 t401 from sI) hb); (try clear hb); (try clear hk); (try clear ho0)) | ((with_reducible refine gd 8 rfl ?_); refine bx (N := 8) (cs := #[.slice none 0 0]) (t := 30) ?_; intro gb407 hg w66 hbox hb; replace HO_5 := AM (Kd.R_below (by exact HO_5.out) hb); replace HO_390000 := AM (Kd.V_below (Kd.V_elderB (by exact HO_390000.out) gb407 (Nat.le_of_eq hg.symm)) hb); replace HO405 := AM (Kd.R_below (by exact HO405.out) hb); replace HB := AM (below_step (hI) hb); have BK407 := AM (hbox); have GW407 := AM ((by rw [hg]; exact (keep_size (w := w) (g := g) (row := none) (kI)) : w.heap.size ≤ gb407)); have GE407 := AM ((Nat.le_trans HW0.out (by rw [hg]; exact (keep_size (w := w) (g := g) (row := none) (kI)) : w.heap.size ≤ gb407) : w0.heap.size ≤ gb407)); replace HK := AM (KeepBut.trans (kI) (KeepBut.of_below hb g none) (.inl rfl)); have NB389_407 := AM (nl hg (bk BK389)); have NB407_389 := AM (ng hg (bk BK389)); replace BK389 := bw BK389 hb; have NB402_407 := AM (nl hg (bk BK402)); have NB407_402 := AM (ng hg (bk BK402)); replace BK402 := bw BK402 hb; have NB0_407 := AM ((by rw [hg]; exact Nat.ne_of_lt (IsS97.lt (show IsS97 w0 _ g s0_0 t400 t401 from sI)) : g ≠ gb407)); have NB407_0 := AM ((by rw [hg]; exact Nat.ne_of_gt (IsS97.lt (show IsS97 w0 _ g s0_0 t400 t401 from sI)) : gb407 ≠ g)); replace HI0 := AM (IsS97.below (sI) hb); clear hb hbox hg; obtain ⟨Ao67, co67, eo67⟩ := Kd.R_slice HO405.out; subst eo67; have hnb68 := NB407_389.out; have hnc68 := NB389_407.out; have hnb69 := NB407_402.out; have hnc69 := NB402_407.out; have hnb70 := NB407_0.out; have hnc70 := NB0_407.out; have hcz71_0 := bv BK407 0 (.slice none 0 0); have hfz71_0 := bz BK407 0) | (go_at_call 79; (with_reducible refine (spec_l01Once.calls g s0_0 t400 t401 20 false t412 t413 w0 _ ?side1 ?side2 A32.out).mono ?_); (case side1 => exact sI); (case side2 => exact hI); rintro e w72 ⟨rfl, hi, hb, hk⟩; have n0_ := AM (Kd.R_mono (Kd.R_keep (IsS97.apart (show IsS97 w0 _ g s0_0 t400 t401 from sI) (by exact (Kd.R_mono (Kd.R_far (p := ⟨gb407, 0, none⟩) (Kd.R_types HO_5.out BK407.out (by decide)) (fun _ hk => hk.2) (.slice Ao67 t403.length co67)) (fun _ h_ => h_.1))) (by decide)) hk (fun _ h => h.2)) (fun _ h => h.1)); have n1_ := AM (Kd.V_mono (Kd.V_keep (Kd.V_mono (ok := fun k_ => ((((((P1_0_ k_ ∨ w.heap.size ≤ k_)) ∧ (some k_ ≠ (u5 : Value).ownBlock ∧ (k_ ≠ gb389 ∧ k_ ≠ g))) ∧ k_ ≠ gb402) ∧ some k_ ≠ (.slice Ao67 t403.length co67 : Value).ownBlock) ∧ k_ ≠ gb407)) (by exact (Kd.V_mono (Kd.V_far (p := ⟨gb407, 0, none⟩) (Kd.V_mono HO_390000.out (fun k_ hk => (⟨hk, hk.2⟩ : _ ∧ k_ ≠ gb407))) (fun _ hk => hk.2) (.slice Ao67 t403.length co67)) (fun _ h_ => h_.1))) (fun k_ hk_ => (⟨hk_, hk_.1.1.1.2.2.2⟩ : _ ∧ k_ ≠ g))) hk (fun _ h => h.2)) (fun _ h => h.1)); have n2_ := AM (KeepBut.blk hk (g' := gb389) (o := .cells #[.slice Ao64 x390000_1.length co64] 30 (0, 0)) (be) NB389_0.out (by simp)); have n3_ := AM (KeepBut.blk hk (g' := gb402) (o := .cells #[.int .i64 t396, .string t397, .string t398, .string t399] 41 (0, 0)) (be) NB402_0.out (by simp)); have n4_ := AM (Kd.R_mono (Kd.R_keep (IsS97.apart (show IsS97 w0 _ g s0_0 t400 t401 from sI) (by exact (Kd.R_mono (Kd.R_far (p := ⟨gb407, 0, none⟩) (Kd.R_types HO405.out BK407.out (by decide)) (fun _ hk => hk.2) (.slice Ao67 t403.length co67)) (fun _ h_ => h_.1))) (by decide)) hk (fun _ h => h.2)) (fun _ h => h.1)); have n5_ := AM (KeepBut.blk hk (g' := gb407) (o := .cells #[.slice Ao67 t403.length co67] 30 (0, 0)) (bp #[.slice none 0 0] 0) NB407_0.out (by simp)); have n6_ := AM (KeepBut.trans (kI) hk (.inl rfl)); have n7_ := AM (hb); have n8_ := AM (hi); clear HO_5; clear HO_390000; clear BK389; clear BK402; clear HO405; clear BK407; clear HK; clear HB; clear HI0; have HO_5 := n0_; have HO_390000 := n1_; have BK389 := n2_; have BK402 := n3_; have HO405 := n4_; have BK407 := n5_; have HK := n6_; have HB := n7_; have HI0 := n8_; clear n0_ n1_ n2_ n3_ n4_ n5_ n6_ n7_ n8_; (try clear hb); (try clear hk); (try clear hi)))
   go_roundg k1
   case measure => have := HK1.out; omega
   case rel => exact ⟨(x5_1), (wrap64 (x6_1 + 1)), (t412), (t413), (x390000_1), (.slice Ao64 x390000_1.length co64), sf, H', ⟨by have := HK1.out; omega⟩, ⟨by exact Kd.R_mono HO_5.out (fun _ hk => hk.1)⟩, ⟨by exact Kd.V_mono HO_390000.out (fun _ hk => ⟨hk.1.1.1.1, ⟨hk.1.1.1.2.1, ⟨hk.1.1.1.2.2.1, hk.1.1.1.2.2.2⟩⟩⟩)⟩, ⟨bk BK389⟩, ⟨sI⟩, ⟨kI⟩, ⟨hI⟩⟩
  rw [if_neg c7] at H
  have c7b0 : decide (x6_1 < t393) = false := decide_eq_false c7
  clear c7
  simp only [Option.some.injEq, Prod.mk.injEq] at H
  obtain ⟨rfl, rfl, rfl⟩ := H
  go_wp2_with (first | ((with_reducible refine gc 71 rfl ?_); refine gl 13 Try.func71 #[.pointer (some ⟨g, 0, none⟩), .int .i64 9] ?_; (with_reducible refine (spec_l01Below.calls g s0_0 x1001_1 x1002_1 9 t393 t394 t395 w0 _ ?side1 ?side2 A6.out).mono ?_); (case side1 => exact sI); (case side2 => exact hI); rintro e w73 ⟨rfl, hi, hb, hk⟩; refine ⟨_, rfl, ?_⟩; replace HO_5 := AM (Kd.R_mono (Kd.R_keep (IsS97.apart (show IsS97 w0 _ g s0_0 x1001_1 x1002_1 from sI) (by exact HO_5.out) (by decide)) hk (fun _ h => h.2)) (fun _ h => h.1)); replace HO_390000 := AM (Kd.V_mono (Kd.V_keep (Kd.V_mono (ok := fun k_ => (((P1_0_ k_ ∨ w.heap.size ≤ k_)) ∧ (some k_ ≠ (u5 : Value).ownBlock ∧ (k_ ≠ gb389 ∧ k_ ≠ g)))) (by exact HO_390000.out) (fun k_ hk_ => (⟨hk_, hk_.2.2.2⟩ : _ ∧ k_ ≠ g))) hk (fun _ h => h.2)) (fun _ h => h.1)); replace BK389 := AM (KeepBut.blk hk (g' := gb389) (o := .cells #[u390000] 30 (0, 0)) (bk BK389) NB389_0.out (by simp)); replace HK := AM (KeepBut.trans (kI) hk (.inl rfl)); replace HB := AM (hb); replace HI0 := AM (hi); (try clear hb); (try clear hk); (try clear hi)))
  go_ret
  exact ⟨_, er, by exact HO_5.out, sI, hI, kI⟩

/-! ### spec_l01Place: function 62 -/
def spec_l01Place.f (s0_0 : List Int) (s0_1 : Int) (s0_2 : Int) (a1 : Int) : Option (Int × Int × Int) := (spec_l01Once.f s0_0 s0_1 s0_2 15).bind fun bt417 => (if bt417.1 = true then ((spec_l01PickInt.f s0_0 bt417.2.1 bt417.2.2 (([(-1), a1, wrap64 (a1 + 1), 9223372036854775807, (-9223372036854775808)] : List Int))).bind fun bt423 => (some (bt423.1, bt423.2.1, bt423.2.2))) else ((spec_l01Below.f s0_0 bt417.2.1 bt417.2.2 a1).bind fun bt426 => (some (bt426.1, bt426.2.1, bt426.2.2))))
set_option maxHeartbeats 8000000 in
set_option maxRecDepth 100000 in
theorem spec_l01Place.calls (g : Nat) (s0_0 : List Int) (s0_1 : Int) (s0_2 : Int) (a1 : Int) (r1 : Int) (r2 : Int) (r3 : Int) (w0 w : World) (hI : IsS97 w0 w g s0_0 s0_1 s0_2) (hB : Below w0.heap.size w0 w) (h : spec_l01Place.f s0_0 s0_1 s0_2 a1 = some (r1, r2, r3)) :
  Calls Try.prog 62 #[.pointer (some ⟨g, 0, none⟩), .int .i64 a1] w fun e w' => e = .returned (.int .i64 r1) ∧ IsS97 w0 w' g s0_0 r2 r3 ∧ Below w0.heap.size w0 w' ∧ KeepBut w w' g none := by
 have HI0 := AM hI
 have HK := AM (KeepBut.refl w g none)
 have HL := AM hB.size
 clear hI
 have HW0 := AM hB.size
 have HB := AM hB
 clear hB
 have H : ((spec_l01Once.f s0_0 s0_1 s0_2 15).bind fun bt417 => (if bt417.1 = true then ((spec_l01PickInt.f s0_0 bt417.2.1 bt417.2.2 (([(-1), a1, wrap64 (a1 + 1), 9223372036854775807, (-9223372036854775808)] : List Int))).bind fun bt423 => (some (bt423.1, bt423.2.1, bt423.2.2))) else ((spec_l01Below.f s0_0 bt417.2.1 bt417.2.2 a1).bind fun bt426 => (some (bt426.1, bt426.2.1, bt426.2.2))))) = some (r1, r2, r3) := h
 clear h
 replace H := bm H
 obtain ⟨⟨t417, t418, t419⟩, A30, H⟩ := H
 replace H : (if t417 = true then ((spec_l01PickInt.f s0_0 t418 t419 (([(-1), a1, wrap64 (a1 + 1), 9223372036854775807, (-9223372036854775808)] : List Int))).bind fun bt423 => (some (bt423.1, bt423.2.1, bt423.2.2))) else ((spec_l01Below.f s0_0 t418 t419 a1).bind fun bt426 => (some (bt426.1, bt426.2.1, bt426.2.2)))) = some (r1, r2, r3) := H
 have A3 := AM A30
 clear A30
 by_cases c4 : t417 = true
 ·subst c4
  have H1 : ((spec_l01PickInt.f s0_0 t418 t419 (([(-1), a1, wrap64 (a1 + 1), 9223372036854775807, (-9223372036854775808)] : List Int))).bind fun bt423 => (some (bt423.1, bt423.2.1, bt423.2.2))) = some (r1, r2, r3) := by rw [if_pos rfl] at H; exact H
  clear H
  have H := H1
  clear H1
  obtain ⟨y420, hy420⟩ : ∃ y_ : List Int, y_ = (([(-1), a1, wrap64 (a1 + 1), 9223372036854775807, (-9223372036854775808)] : List Int)) := ⟨_, rfl⟩
  replace H : ((spec_l01PickInt.f s0_0 t418 t419 y420).bind fun bt423 => (some (bt423.1, bt423.2.1, bt423.2.2))) = some (r1, r2, r3) := by first | (rw [hy420]; with_reducible exact H) | (have H2_ := (Option.bind_some _ _).symm.trans H; rw [hy420]; with_reducible exact H2_) | (have H2_ := (Option.bind_some _ _).symm.trans H; with_reducible exact H2_) | with_reducible exact H | (rw [hy420]; exact H) | exact H
  have Ny420 := AM hy420
  clear hy420
  replace H := bm H
  obtain ⟨⟨t423, t424, t425⟩, A50, H⟩ := H
  replace H : (some (t423, t424, t425)) = some (r1, r2, r3) := H
  have A5 := AM A50
  clear A50
  simp only [Option.some.injEq, Prod.mk.injEq] at H
  obtain ⟨rfl, rfl, rfl⟩ := H
  go_enter Try.func62, Try.ntmps62
  go_wp2_with (first | ((with_reducible refine gc 79 rfl ?_); refine gl 6 Try.func79 #[.pointer (some ⟨g, 0, none⟩), .int .i64 15] ?_; (with_reducible refine (spec_l01Once.calls g s0_0 s0_1 s0_2 15 true t418 t419 w0 _ ?side1 ?side2 A3.out).mono ?_); (case side1 => exact sI); (case side2 => exact hI); rintro e w6 ⟨rfl, hi, hb, hk⟩; refine ⟨_, rfl, ?_⟩; replace HK := AM (KeepBut.trans (kI) hk (.inl rfl)); replace HB := AM (hb); replace HI0 := AM (hi); (try clear hb); (try clear hk); (try clear hi)) | ((with_reducible refine gd 11 rfl ?_); refine Kd.R_lit (Kd.int .i64) _ 3 ?hg (N := 11) ?hd (xs := ([(-1), a1, wrap64 (a1 + 1), 9223372036854775807, (-9223372036854775808)] : List Int)) (inner := [.int .i64 (-1), .int .i64 a1, .int .i64 (wrap64 (a1 + 1)), .int .i64 9223372036854775807, .int .i64 (-9223372036854775808)]) (ok := fun _ => True) (okp := fun _ => True) ?hr ?hp (fun _ hk => hk) trivial (Below.refl _ _) (Nat.le_refl _) (by simp) ?_; (case hd => rfl); (case hg => rfl); (case hr => first | (go_simp; done) | (go_simp; rfl)); (case hp => exact (Reps.one (show Kd.M (Kd.int .i64) _ _ _ (-1) [.int .i64 (-1)] from rfl) (Reps.one (show Kd.M (Kd.int .i64) _ _ _ a1 [.int .i64 a1] from rfl) (Reps.one (show Kd.M (Kd.int .i64) _ _ _ (wrap64 (a1 + 1)) [.int .i64 (wrap64 (a1 + 1))] from rfl) (Reps.one (show Kd.M (Kd.int .i64) _ _ _ 9223372036854775807 [.int .i64 9223372036854775807] from rfl) (Reps.one (show Kd.M (Kd.int .i64) _ _ _ (-9223372036854775808) [.int .i64 (-9223372036854775808)] from rfl) (Reps.none _ _))))))); intro v421 w7 ho8 hb hg_ hnew_; clear hg_ hnew_; (first | rw [← Ny420.out] at ho8 | (simp only [Int.reduceToNat] at ho8; rw [← Ny420.out] at ho8)); have HO422 := AM (Kd.R_lower ho8 (keep_size (w := w) (g := g) (row := none) (kI))); replace HK := AM (KeepBut.trans (kI) (KeepBut.of_below hb g none) (.inl rfl)); replace HB := AM (below_step (hI) hb); replace HI0 := AM (IsS97.below (sI) hb); clear hb ho8; obtain ⟨Ao9, co9, eo9⟩ := Kd.R_slice HO422.out; subst eo9) | ((with_reducible refine gc 74 rfl ?_); refine gl 12 Try.func74 #[.pointer (some ⟨g, 0, none⟩), .slice Ao9 y420.length co9] ?_; (with_reducible refine (spec_l01PickInt.calls g s0_0 t418 t419 _ _ y420 t423 t424 t425 w0 _ ?side1 ?side2 ?side3 ?side4 ?side5 A5.out).mono ?_); (case side1 => exact sI); (case side2 => exact hI); (case side3 => repeat (first | exact (Kd.R_reads' HO422.out).2.2 | (with_reducible first | refine cA ?_ _ | refine cN ?_ _ | refine cD ?_))); (case side4 => exact (Kd.R_reads' HO422.out).2.1); (case side5 => exact far_slice (IsS97.own_ne HI0.out HO422.out (by decide))); rintro e w10 ⟨rfl, hi, hb, hk⟩; refine ⟨_, rfl, ?_⟩; replace HO422 := AM (Kd.R_mono (Kd.R_keep (IsS97.apart (show IsS97 w0 _ g s0_0 t418 t419 from sI) (by exact HO422.out) (by decide)) hk (fun _ h => h.2)) (fun _ h => h.1)); replace HK := AM (KeepBut.trans (kI) hk (.inl rfl)); replace HB := AM (hb); replace HI0 := AM (hi); (try clear hb); (try clear hk); (try clear hi)))
  go_ret
  exact ⟨er, sI, hI, kI⟩
 replace c4 := Bool.eq_false_iff.mpr c4
 subst c4
 have H1 : ((spec_l01Below.f s0_0 t418 t419 a1).bind fun bt426 => (some (bt426.1, bt426.2.1, bt426.2.2))) = some (r1, r2, r3) := by rw [if_neg (show ¬ (false = true) by decide)] at H; exact H
 clear H
 have H := H1
 clear H1
 replace H := bm H
 obtain ⟨⟨t426, t427, t428⟩, A110, H⟩ := H
 replace H : (some (t426, t427, t428)) = some (r1, r2, r3) := H
 have A11 := AM A110
 clear A110
 simp only [Option.some.injEq, Prod.mk.injEq] at H
 obtain ⟨rfl, rfl, rfl⟩ := H
 go_enter Try.func62, Try.ntmps62
 go_wp2_with (first | ((with_reducible refine gc 79 rfl ?_); refine gl 6 Try.func79 #[.pointer (some ⟨g, 0, none⟩), .int .i64 15] ?_; (with_reducible refine (spec_l01Once.calls g s0_0 s0_1 s0_2 15 false t418 t419 w0 _ ?side1 ?side2 A3.out).mono ?_); (case side1 => exact sI); (case side2 => exact hI); rintro e w12 ⟨rfl, hi, hb, hk⟩; refine ⟨_, rfl, ?_⟩; replace HK := AM (KeepBut.trans (kI) hk (.inl rfl)); replace HB := AM (hb); replace HI0 := AM (hi); (try clear hb); (try clear hk); (try clear hi)) | ((with_reducible refine gc 71 rfl ?_); refine gl 15 Try.func71 #[.pointer (some ⟨g, 0, none⟩), .int .i64 a1] ?_; (with_reducible refine (spec_l01Below.calls g s0_0 t418 t419 a1 t426 t427 t428 w0 _ ?side1 ?side2 A11.out).mono ?_); (case side1 => exact sI); (case side2 => exact hI); rintro e w13 ⟨rfl, hi, hb, hk⟩; refine ⟨_, rfl, ?_⟩; replace HK := AM (KeepBut.trans (kI) hk (.inl rfl)); replace HB := AM (hb); replace HI0 := AM (hi); (try clear hb); (try clear hk); (try clear hi)))
 go_ret
 exact ⟨er, sI, hI, kI⟩

/-! ### spec_l03Left: function 63 -/
def spec_l03Left.l0 : Nat → List Int → Int → List Int → Int → Int → Option (List Int × Int × Int)
 | 0, _, _, _, _, _ => none
 | k + 1, x3, x4, x1000, x1001, x1002 => (spec_l01Below.f x1000 x1001 x1002 6).bind fun bt432 => (if x4 < bt432.1 then ((spec_l01PickInt.f x1000 bt432.2.1 bt432.2.2 (([0, 1, 2, 3, 5, 9, 40, 200, (-1), 9223372036854775807] : List Int))).bind fun bt438 => (if x3.length < 17592186044416 then (spec_l03Left.l0 k (x3 ++ [bt438.1]) (wrap64 (x4 + 1)) x1000 bt438.2.1 bt438.2.2) else (none))) else (some (x3, bt432.2.1, bt432.2.2)))
def spec_l03Left.f (k : Nat) (s0_0 : List Int) (s0_1 : Int) (s0_2 : Int) : Option (List Int × Int × Int) := spec_l03Left.l0 k (([] : List Int)) 0 s0_0 s0_1 s0_2
theorem spec_l03Left.mono_l : ∀ k, (∀ y0 y1 y2 y3 y4, LeO (spec_l03Left.l0 k y0 y1 y2 y3 y4) (spec_l03Left.l0 (k + 1) y0 y1 y2 y3 y4))
 | 0 => fun _ _ _ _ _ r h => by simp [spec_l03Left.l0] at h
 | k + 1 => by
  have ih0 := spec_l03Left.mono_l k
  intro y0 y1 y2 y3 y4
  unfold spec_l03Left.l0
  repeat' first
  | (with_reducible exact LeO.refl _)
  | (with_reducible refine LeO.ite ?_ ?_)
  | (with_reducible refine LeO.bind ?_ (fun _ => ?_))
  | exact ih0 _ _ _ _ _
  | exact LeO.none _
  | refine LeO.ite ?_ ?_
  | refine LeO.bind ?_ (fun _ => ?_)
theorem spec_l03Left.mono : ∀ a0 a1 a2 k, LeO (spec_l03Left.f k a0 a1 a2) (spec_l03Left.f (k + 1) a0 a1 a2) := by
 intro a0 a1 a2 k
 have ih0 := spec_l03Left.mono_l k
 unfold spec_l03Left.f
 repeat' first
   | (with_reducible exact LeO.refl _)
   | (with_reducible refine LeO.ite ?_ ?_)
   | (with_reducible refine LeO.bind ?_ (fun _ => ?_))
   | exact ih0 _ _ _ _ _
   | exact LeO.none _
   | refine LeO.ite ?_ ?_
   | refine LeO.bind ?_ (fun _ => ?_)
set_option maxHeartbeats 8000000 in
set_option maxRecDepth 100000 in
theorem spec_l03Left.calls (k : Nat) (g : Nat) (s0_0 : List Int) (s0_1 : Int) (s0_2 : Int) (r1 : List Int) (r2 : Int) (r3 : Int) (w0 w : World) (hI : IsS97 w0 w g s0_0 s0_1 s0_2) (hB : Below w0.heap.size w0 w) (h : spec_l03Left.f k s0_0 s0_1 s0_2 = some (r1, r2, r3)) :
  Calls Try.prog 63 #[.pointer (some ⟨g, 0, none⟩)] w fun e w' => ∃ v0_ : Value, e = .returned (v0_) ∧ Kd.R (Kd.int .i64) 3 w' w.heap.size (fun _ => True) v0_ r1 ∧ IsS97 w0 w' g s0_0 r2 r3 ∧ Below w0.heap.size w0 w' ∧ KeepBut w w' g none := by
 have HI0 := AM hI
 have HK := AM (KeepBut.refl w g none)
 have HL := AM hB.size
 clear hI
 have HW0 := AM hB.size
 have HB := AM hB
 clear hB
 have H : (spec_l03Left.l0 k (([] : List Int)) 0 s0_0 s0_1 s0_2) = some (r1, r2, r3) := h
 clear h
 obtain ⟨y429, hy429⟩ : ∃ y_ : List Int, y_ = (([] : List Int)) := ⟨_, rfl⟩
 replace H : (spec_l03Left.l0 k y429 0 s0_0 s0_1 s0_2) = some (r1, r2, r3) := by first | (rw [hy429]; with_reducible exact H) | (have H2_ := (Option.bind_some _ _).symm.trans H; rw [hy429]; with_reducible exact H2_) | (have H2_ := (Option.bind_some _ _).symm.trans H; with_reducible exact H2_) | with_reducible exact H | (rw [hy429]; exact H) | exact H
 have Ny429 := AM hy429
 clear hy429
 have H' := AM H
 clear H
 go_enter Try.func63, Try.ntmps63
 go_wp2_with (first | ((with_reducible refine gd 5 rfl ?_); refine Kd.R_lit (Kd.int .i64) _ 3 ?hg (N := 5) ?hd (xs := ([] : List Int)) (inner := []) (ok := fun _ => True) (okp := fun _ => True) ?hr ?hp (fun _ hk => hk) trivial (Below.refl _ _) (Nat.le_refl _) (by simp) ?_; (case hd => rfl); (case hg => rfl); (case hr => first | (go_simp; done) | (go_simp; rfl)); (case hp => exact (Reps.none _ _)); intro v430 w2 ho3 hb hg_ hnew_; clear hg_ hnew_; (first | rw [← Ny429.out] at ho3 | (simp only [Int.reduceToNat] at ho3; rw [← Ny429.out] at ho3)); have HO431 := AM (Kd.R_lower ho3 (keep_size (w := w) (g := g) (row := none) (kI))); replace HK := AM (KeepBut.trans (kI) (KeepBut.of_below hb g none) (.inl rfl)); replace HB := AM (below_step (hI) hb); replace HI0 := AM (IsS97.below (sI) hb); clear hb ho3))
 go_loopg [3, 4] k (fun kq v3 v4 w' => ∃ (x3_1 : List Int) (x4_1 : Int) (x1001_1 : Int) (x1002_1 : Int), v4 = .int .i64 x4_1 ∧ Aside0 (spec_l03Left.l0 kq x3_1 x4_1 s0_0 x1001_1 x1002_1 = some (r1, r2, r3)) ∧ Aside0 (kq ≤ k) ∧ Aside0 (Kd.R (Kd.int .i64) 3 w' w.heap.size (fun _ => True) v3 x3_1) ∧ Aside0 (IsS97 w0 w' g s0_0 x1001_1 x1002_1) ∧ Aside0 (KeepBut w w' g none) ∧ Aside0 (Below w0.heap.size w0 w'))
 case atStart => exact ⟨(y429), (0), (s0_1), (s0_2), sf, H', ⟨Nat.le_refl _⟩, ⟨by exact HO431.out⟩, ⟨sI⟩, ⟨kI⟩, ⟨hI⟩⟩
 clear H'
 obtain ⟨x3_1, x4_1, x1001_1, x1002_1, rfl, HA, HK1, HO_3, HI0, HK, HB⟩ := hrel
 cases gk with
 | zero => exact absurd HA.out (by simp [spec_l03Left.l0])
 | succ k1 =>
  have H := HA.out
  clear HA
  simp only [spec_l03Left.l0] at H
  replace H := bm H
  obtain ⟨⟨t432, t433, t434⟩, A40, H⟩ := H
  replace H : (if x4_1 < t432 then ((spec_l01PickInt.f s0_0 t433 t434 (([0, 1, 2, 3, 5, 9, 40, 200, (-1), 9223372036854775807] : List Int))).bind fun bt438 => (if x3_1.length < 17592186044416 then (spec_l03Left.l0 k1 (x3_1 ++ [bt438.1]) (wrap64 (x4_1 + 1)) s0_0 bt438.2.1 bt438.2.2) else (none))) else (some (x3_1, t433, t434))) = some (r1, r2, r3) := H
  have A4 := AM A40
  clear A40
  by_cases c5 : x4_1 < t432
  ·rw [if_pos c5] at H
   have c5b0 : decide (x4_1 < t432) = true := decide_eq_true c5
   clear c5
   obtain ⟨y435, hy435⟩ : ∃ y_ : List Int, y_ = (([0, 1, 2, 3, 5, 9, 40, 200, (-1), 9223372036854775807] : List Int)) := ⟨_, rfl⟩
   replace H : ((spec_l01PickInt.f s0_0 t433 t434 y435).bind fun bt438 => (if x3_1.length < 17592186044416 then (spec_l03Left.l0 k1 (x3_1 ++ [bt438.1]) (wrap64 (x4_1 + 1)) s0_0 bt438.2.1 bt438.2.2) else (none))) = some (r1, r2, r3) := by first | (rw [hy435]; with_reducible exact H) | (have H2_ := (Option.bind_some _ _).symm.trans H; rw [hy435]; with_reducible exact H2_) | (have H2_ := (Option.bind_some _ _).symm.trans H; with_reducible exact H2_) | with_reducible exact H | (rw [hy435]; exact H) | exact H
   have Ny435 := AM hy435
   clear hy435
   replace H := bm H
   obtain ⟨⟨t438, t439, t440⟩, A60, H⟩ := H
   replace H : (if x3_1.length < 17592186044416 then (spec_l03Left.l0 k1 (x3_1 ++ [t438]) (wrap64 (x4_1 + 1)) s0_0 t439 t440) else (none)) = some (r1, r2, r3) := H
   have A6 := AM A60
   clear A60
   by_cases c7 : x3_1.length < 17592186044416
   ·rw [if_pos c7] at H
    have LMc7 := AM c7
    clear c7
    obtain ⟨y441, hy441⟩ : ∃ y_ : List Int, y_ = (x3_1 ++ [t438]) := ⟨_, rfl⟩
    replace H : (spec_l03Left.l0 k1 y441 (wrap64 (x4_1 + 1)) s0_0 t439 t440) = some (r1, r2, r3) := by first | (rw [hy441]; with_reducible exact H) | (have H2_ := (Option.bind_some _ _).symm.trans H; rw [hy441]; with_reducible exact H2_) | (have H2_ := (Option.bind_some _ _).symm.trans H; with_reducible exact H2_) | with_reducible exact H | (rw [hy441]; exact H) | exact H
    have Ny441 := AM hy441
    clear hy441
    have H' := AM H
    clear H
    go_wp2_with (first | ((with_reducible refine gc 71 rfl ?_); refine gl 8 Try.func71 #[.pointer (some ⟨g, 0, none⟩), .int .i64 6] ?_; (with_reducible refine (spec_l01Below.calls g s0_0 x1001_1 x1002_1 6 t432 t433 t434 w0 _ ?side1 ?side2 A4.out).mono ?_); (case side1 => exact sI); (case side2 => exact hI); rintro e w8 ⟨rfl, hi, hb, hk⟩; refine ⟨_, rfl, ?_⟩; replace HO_3 := AM (Kd.R_mono (Kd.R_keep (IsS97.apart (show IsS97 w0 _ g s0_0 x1001_1 x1002_1 from sI) (by exact HO_3.out) (by decide)) hk (fun _ h => h.2)) (fun _ h => h.1)); replace HK := AM (KeepBut.trans (kI) hk (.inl rfl)); replace HB := AM (hb); replace HI0 := AM (hi); (try clear hb); (try clear hk); (try clear hi)) | ((with_reducible refine gd 14 rfl ?_); refine Kd.R_lit (Kd.int .i64) _ 3 ?hg (N := 14) ?hd (xs := ([0, 1, 2, 3, 5, 9, 40, 200, (-1), 9223372036854775807] : List Int)) (inner := [.int .i64 0, .int .i64 1, .int .i64 2, .int .i64 3, .int .i64 5, .int .i64 9, .int .i64 40, .int .i64 200, .int .i64 (-1), .int .i64 9223372036854775807]) (ok := fun _ => True) (okp := fun _ => True) ?hr ?hp (fun _ hk => hk) trivial (Below.refl _ _) (Nat.le_refl _) (by simp) ?_; (case hd => rfl); (case hg => rfl); (case hr => first | (go_simp; done) | (go_simp; rfl)); (case hp => exact (Reps.one (show Kd.M (Kd.int .i64) _ _ _ 0 [.int .i64 0] from rfl) (Reps.one (show Kd.M (Kd.int .i64) _ _ _ 1 [.int .i64 1] from rfl) (Reps.one (show Kd.M (Kd.int .i64) _ _ _ 2 [.int .i64 2] from rfl) (Reps.one (show Kd.M (Kd.int .i64) _ _ _ 3 [.int .i64 3] from rfl) (Reps.one (show Kd.M (Kd.int .i64) _ _ _ 5 [.int .i64 5] from rfl) (Reps.one (show Kd.M (Kd.int .i64) _ _ _ 9 [.int .i64 9] from rfl) (Reps.one (show Kd.M (Kd.int .i64) _ _ _ 40 [.int .i64 40] from rfl) (Reps.one (show Kd.M (Kd.int .i64) _ _ _ 200 [.int .i64 200] from rfl) (Reps.one (show Kd.M (Kd.int .i64) _ _ _ (-1) [.int .i64 (-1)] from rfl) (Reps.one (show Kd.M (Kd.int .i64) _ _ _ 9223372036854775807 [.int .i64 9223372036854775807] from rfl) (Reps.none _ _)))))))))))); intro v436 w9 ho10 hb hg_ hnew_; clear hg_ hnew_; (first | rw [← Ny435.out] at ho10 | (simp only [Int.reduceToNat] at ho10; rw [← Ny435.out] at ho10)); have HO437 := AM (Kd.R_lower (Kd.R_new' ho10 (Kd.R_lt (by exact HO_3.out))) (keep_size (w := w) (g := g) (row := none) (kI))); replace HO_3 := AM (Kd.R_elder' (by exact HO_3.out) (Kd.R_base ho10) hb); replace HK := AM (KeepBut.trans (kI) (KeepBut.of_below hb g none) (.inl rfl)); replace HB := AM (below_step (hI) hb); replace HI0 := AM (IsS97.below (sI) hb); clear hb ho10; obtain ⟨Ao11, co11, eo11⟩ := Kd.R_slice HO437.out; subst eo11) | ((with_reducible refine gc 74 rfl ?_); refine gl 15 Try.func74 #[.pointer (some ⟨g, 0, none⟩), .slice Ao11 y435.length co11] ?_; (with_reducible refine (spec_l01PickInt.calls g s0_0 t433 t434 _ _ y435 t438 t439 t440 w0 _ ?side1 ?side2 ?side3 ?side4 ?side5 A6.out).mono ?_); (case side1 => exact sI); (case side2 => exact hI); (case side3 => repeat (first | exact (Kd.R_reads' HO437.out).2.2 | (with_reducible first | refine cA ?_ _ | refine cN ?_ _ | refine cD ?_))); (case side4 => exact (Kd.R_reads' HO437.out).2.1); (case side5 => exact far_slice (IsS97.own_ne HI0.out HO437.out (by decide))); rintro e w12 ⟨rfl, hi, hb, hk⟩; refine ⟨_, rfl, ?_⟩; replace HO_3 := AM (Kd.R_mono (Kd.R_keep (IsS97.apart (show IsS97 w0 _ g s0_0 t433 t434 from sI) (by exact HO_3.out) (by decide)) hk (fun _ h => h.2)) (fun _ h => h.1)); replace HO437 := AM (Kd.R_mono (Kd.R_keep (IsS97.apart (show IsS97 w0 _ g s0_0 t433 t434 from sI) (by exact HO437.out) (by decide)) hk (fun _ h => h.2)) (fun _ h => h.1)); replace HK := AM (KeepBut.trans (kI) hk (.inl rfl)); replace HB := AM (hb); replace HI0 := AM (hi); (try clear hb); (try clear hk); (try clear hi)) | ((with_reducible refine gate_builtin (b := .append) (xs := #[.tmp 12, .tmp 16]) rfl ?_); at_builtin; refine Kd.R_append (Kd.int .i64) w.heap.size rfl (.tmp 12) (.tmp 16) 54 3 (.int .i64 0) 8 rfl Try.underlying54 info3 rfl (by decide) (by omega) u3 x3_1 t438 [.int .i64 t438] (fun k_ => some k_ ≠ (.slice Ao11 y435.length co11 : Value).ownBlock) (fun _ => False) rfl rfl ?aP (fun _ hk => hk.elim) ?aF ?aO (Below.refl _ _) ?aS ?aL ?_; (case aP => exact rfl); (case aF => exact (fun k_ hk => Kd.fresh' (Kd.R_lt (by exact HO437.out)) k_ hk)); (case aO => exact (by exact Kd.R_mono HO_3.out (fun _ hk => hk.2))); (case aS => exact (keep_size (w := w) (g := g) (row := none) (kI))); (case aL => have := LMc7.out; omega); intro v442 w13 ho hb hg hat; rw [← Ny441.out] at ho; replace HO437 := AM (Kd.R_after (ok := (fun _ => True)) (by exact HO437.out) hg hat); replace HB := AM (below_weaken (hI) HL.out hb); replace HI0 := AM (IsS97.grown (sI) hg (IsS97.own_ne HI0.out HO_3.out (by decide))); replace HK := AM (KeepBut.trans (kI) (KeepBut.of_grown hg g) (Kd.R_base2 HO_3.out)); have HO443 := AM (ho); clear HO_3; clear ho hb hg hat))
    go_roundg k1
    case measure => have := HK1.out; omega
    case rel => exact ⟨(y441), (wrap64 (x4_1 + 1)), (t439), (t440), sf, H', ⟨by have := HK1.out; omega⟩, ⟨by exact Kd.R_mono HO443.out (fun _ hk => trivial)⟩, ⟨sI⟩, ⟨kI⟩, ⟨hI⟩⟩
   rw [if_neg c7] at H
   exact absurd H (by simp)
  rw [if_neg c5] at H
  have c5b0 : decide (x4_1 < t432) = false := decide_eq_false c5
  clear c5
  simp only [Option.some.injEq, Prod.mk.injEq] at H
  obtain ⟨rfl, rfl, rfl⟩ := H
  go_wp2_with (first | ((with_reducible refine gc 71 rfl ?_); refine gl 8 Try.func71 #[.pointer (some ⟨g, 0, none⟩), .int .i64 6] ?_; (with_reducible refine (spec_l01Below.calls g s0_0 x1001_1 x1002_1 6 t432 t433 t434 w0 _ ?side1 ?side2 A4.out).mono ?_); (case side1 => exact sI); (case side2 => exact hI); rintro e w14 ⟨rfl, hi, hb, hk⟩; refine ⟨_, rfl, ?_⟩; replace HO_3 := AM (Kd.R_mono (Kd.R_keep (IsS97.apart (show IsS97 w0 _ g s0_0 x1001_1 x1002_1 from sI) (by exact HO_3.out) (by decide)) hk (fun _ h => h.2)) (fun _ h => h.1)); replace HK := AM (KeepBut.trans (kI) hk (.inl rfl)); replace HB := AM (hb); replace HI0 := AM (hi); (try clear hb); (try clear hk); (try clear hi)))
  go_ret
  exact ⟨_, er, by exact HO_3.out, sI, hI, kI⟩

/-! ### spec_DrawCutActs: function 34 -/
def spec_DrawCutActs.f (k : Nat) (l0 : List Int) : Option ((List (S67)) × (List (S41)) × Int × List Int) := (spec_l01New.f k l0).bind fun bt445 => ((spec_l03Disk.f k bt445.1 bt445.2.1 bt445.2.2).bind fun bt449 => ((spec_l03Acts.f k bt445.1 bt449.2.1 bt449.2.2 bt449.1).bind fun bt455 => ((spec_l01Place.f bt445.1 bt455.2.1 bt455.2.2 (wrap64 ((bt455.1.length : Int) + 1))).bind fun bt460 => ((spec_l03Left.f k bt445.1 bt460.2.1 bt460.2.2).bind fun bt463 => (some (bt449.1, bt455.1, bt460.1, bt463.1))))))
theorem spec_DrawCutActs.mono : ∀ a0 k, LeO (spec_DrawCutActs.f k a0) (spec_DrawCutActs.f (k + 1) a0) := by
 intro a0 k
 unfold spec_DrawCutActs.f
 repeat' first
   | (with_reducible exact LeO.refl _)
   | (with_reducible refine LeO.ite ?_ ?_)
   | (with_reducible refine LeO.bind ?_ (fun _ => ?_))
   | exact spec_l01New.mono _ _
   | exact spec_l03Acts.mono _ _ _ _ _
   | exact spec_l03Disk.mono _ _ _ _
   | exact spec_l03Left.mono _ _ _ _
   | exact LeO.none _
   | refine LeO.ite ?_ ?_
   | refine LeO.bind ?_ (fun _ => ?_)
def spec_DrawCutActs.T4 : Bool × List (List Nat × List Nat) := (true, [([], []), ([], []), ([], []), ([], []), ([3], [3]), ([4], [4]), ([2, 5], [2, 5]), ([], []), ([7, 6], [7]), ([0, 8, 0], [0]), ([1, 9, 0, 1, 9], [1]), ([6, 10, 0, 1, 2, 3, 4, 5, 6, 9, 10], [6]), ([8, 11, 0, 1, 2, 3, 4, 5, 6, 7, 8, 9, 10, 11], [8])])
def spec_DrawCutActs.B4 : List Nat := [0, 0, 0, 0, 8, 24, 60, 0, 252, 509, 1023, 2047, 4095]
theorem spec_DrawCutActs.tab4 : rtab .any (opsOf Try.f34 4) = spec_DrawCutActs.T4 := by kernel_rfl
theorem spec_DrawCutActs.bits4 : waitsOk spec_DrawCutActs.T4.2 spec_DrawCutActs.B4 = true := by kernel_rfl
set_option maxHeartbeats 8000000 in
set_option maxRecDepth 100000 in
theorem spec_DrawCutActs.calls (k : Nat) (A0 : Option Addr) (c0 : Nat) (l0 : List Int) (r1 : List (S67)) (r2 : List (S41)) (r3 : Int) (r4 : List Int) (w : World) (hr0 : Kd.C (Kd.int .u8) w A0 l0.length l0) (hc0 : l0.length ≤ c0) (h : spec_DrawCutActs.f k l0 = some (r1, r2, r3, r4)) :
  Calls Try.prog 34 #[.slice A0 l0.length c0] w fun e w' => ∃ v0_ v1_ v3_ : Value, e = .returned (.tuple #[.agg #[v0_], v1_, .int .i64 r3, v3_]) ∧ Kd.R k67 67 w' w.heap.size (fun _ => True) v0_ r1 ∧ Kd.R k41 41 w' w.heap.size (fun _ => True) v1_ r2 ∧ Kd.R (Kd.int .i64) 3 w' w.heap.size (fun _ => True) v3_ r4 ∧ Below w.heap.size w w' := by
 have hu30 := Try.underlying30
 have HR0 := AM hr0
 have HC0 := AM hc0
 clear hr0 hc0
 have HB := AM (Below.refl w.heap.size w)
 have H : ((spec_l01New.f k l0).bind fun bt445 => ((spec_l03Disk.f k bt445.1 bt445.2.1 bt445.2.2).bind fun bt449 => ((spec_l03Acts.f k bt445.1 bt449.2.1 bt449.2.2 bt449.1).bind fun bt455 => ((spec_l01Place.f bt445.1 bt455.2.1 bt455.2.2 (wrap64 ((bt455.1.length : Int) + 1))).bind fun bt460 => ((spec_l03Left.f k bt445.1 bt460.2.1 bt460.2.2).bind fun bt463 => (some (bt449.1, bt455.1, bt460.1, bt463.1))))))) = some (r1, r2, r3, r4) := h
 clear h
 replace H := bm H
 obtain ⟨⟨t445, t446, t447⟩, A20, H⟩ := H
 replace H : ((spec_l03Disk.f k t445 t446 t447).bind fun bt449 => ((spec_l03Acts.f k t445 bt449.2.1 bt449.2.2 bt449.1).bind fun bt455 => ((spec_l01Place.f t445 bt455.2.1 bt455.2.2 (wrap64 ((bt455.1.length : Int) + 1))).bind fun bt460 => ((spec_l03Left.f k t445 bt460.2.1 bt460.2.2).bind fun bt463 => (some (bt449.1, bt455.1, bt460.1, bt463.1)))))) = some (r1, r2, r3, r4) := H
 have A2 := AM A20
 clear A20
 replace H := bm H
 obtain ⟨⟨t449, t452, t453⟩, A30, H⟩ := H
 replace H : ((spec_l03Acts.f k t445 t452 t453 t449).bind fun bt455 => ((spec_l01Place.f t445 bt455.2.1 bt455.2.2 (wrap64 ((bt455.1.length : Int) + 1))).bind fun bt460 => ((spec_l03Left.f k t445 bt460.2.1 bt460.2.2).bind fun bt463 => (some (t449, bt455.1, bt460.1, bt463.1))))) = some (r1, r2, r3, r4) := H
 have A3 := AM A30
 clear A30
 replace H := bm H
 obtain ⟨⟨t455, t458, t459⟩, A40, H⟩ := H
 replace H : ((spec_l01Place.f t445 t458 t459 (wrap64 ((t455.length : Int) + 1))).bind fun bt460 => ((spec_l03Left.f k t445 bt460.2.1 bt460.2.2).bind fun bt463 => (some (t449, t455, bt460.1, bt463.1)))) = some (r1, r2, r3, r4) := H
 have A4 := AM A40
 clear A40
 replace H := bm H
 obtain ⟨⟨t460, t461, t462⟩, A50, H⟩ := H
 replace H : ((spec_l03Left.f k t445 t461 t462).bind fun bt463 => (some (t449, t455, t460, bt463.1))) = some (r1, r2, r3, r4) := H
 have A5 := AM A50
 clear A50
 replace H := bm H
 obtain ⟨⟨t463, t466, t467⟩, A60, H⟩ := H
 replace H : (some (t449, t455, t460, t463)) = some (r1, r2, r3, r4) := H
 have A6 := AM A60
 clear A60
 simp only [Option.some.injEq, Prod.mk.injEq] at H
 obtain ⟨rfl, rfl, rfl, rfl⟩ := H
 go_enter Try.func34, Try.ntmps34
 try go_wp2_with (first | ((with_reducible refine gd 2 rfl ?_); refine bx (N := 2) (cs := #[.slice none 0 0]) (t := 30) ?_; intro gb444 hg w7 hbox hb; have BK444 := AM (hbox); have GW444 := AM (bs hg HB); have GE444 := AM (bs hg HB); replace HB := bq HB hb; clear hb hbox hg) | ((with_reducible refine gc 59 rfl ?_); refine gl 10 Try.func59 #[.slice A0 l0.length c0] ?_; (with_reducible refine (spec_l01New.calls k _ _ l0 t445 t446 t447 w _ ?side1 ?side2 ?side3 A2.out).mono ?_); (case side1 => repeat (first | (with_reducible first | exact HB.out | apply bA | apply bN | apply bD | refine below_set ?_ GE444.out) | exact HB.out)); (case side2 => exact HR0.out); (case side3 => exact HC0.out); rintro e w8 ⟨g448, rfl, hi, hb, hb2⟩; refine ⟨_, rfl, ?_⟩; replace HB := AM (hb); have HI448 := AM (hi); have NB448_444 := AM (IsS97.ne_blk hi (blk_below (g := gb444) (o := .cells #[.slice none 0 0] 30 (0, 0)) (bk BK444) hb2) (by decide)); have NB444_448 := AM (Ne.symm (IsS97.ne_blk hi (blk_below (g := gb444) (o := .cells #[.slice none 0 0] 30 (0, 0)) (bk BK444) hb2) (by decide))); replace BK444 := AM (blk_below (g := gb444) (o := .cells #[.slice none 0 0] 30 (0, 0)) (bk BK444) hb2); (try clear hb); (try clear hb2); (try clear hi)) | ((with_reducible refine gc 60 rfl ?_); refine gl 12 Try.func60 #[.pointer (some ⟨g448, 0, none⟩)] ?_; (with_reducible refine (spec_l03Disk.calls k g448 t445 t446 t447 t449 t452 t453 w _ ?side1 ?side2 A3.out).mono ?_); (case side1 => repeat (first | (with_reducible first | exact HI448.out | apply IsS97.alloc | apply IsS97.drewN | apply IsS97.drew | apply IsS97.set_1 | apply IsS97.set_2 | refine IsS97.far ?_ NB448_444.out _) | exact HI448.out)); (case side2 => repeat (first | (with_reducible first | exact HB.out | apply bA | apply bN | apply bD | refine below_set ?_ (IsS97.ge HI448.out) | refine below_set ?_ GE444.out) | exact HB.out)); rintro e w9 ⟨v450, rfl, ho0, hi, hb, hk⟩; refine ⟨_, rfl, ?_⟩; replace BK444 := AM (KeepBut.blk hk (g' := gb444) (o := .cells #[.slice none 0 0] 30 (0, 0)) (bk BK444) NB444_448.out (by simp)); have HO451 := AM (Kd.R_lower ho0 (below_size (by repeat (first | (with_reducible first | exact HB.out | apply bA | apply bN | apply bD | refine below_set ?_ (IsS97.ge HI448.out) | refine below_set ?_ GE444.out) | exact HB.out)))); replace HB := AM (hb); replace HI448 := AM (hi); (try clear hb); (try clear hk); (try clear hi); (try clear ho0)) | ((with_reducible refine gd 7 rfl ?_); refine bx (N := 7) (cs := #[.slice none 0 0]) (t := 30) ?_; intro gb454 hg w10 hbox hb; replace HO451 := AM (Kd.R_below (by exact HO451.out) hb); have BK454 := AM (hbox); have GW454 := AM ((by rw [hg]; exact (below_size (by repeat (first | (with_reducible first | exact HB.out | apply bA | apply bN | apply bD | refine below_set ?_ (IsS97.ge HI448.out) | refine below_set ?_ GE444.out) | exact HB.out))) : w.heap.size ≤ gb454)); have GE454 := AM ((by rw [hg]; exact (below_size (by repeat (first | (with_reducible first | exact HB.out | apply bA | apply bN | apply bD | refine below_set ?_ (IsS97.ge HI448.out) | refine below_set ?_ GE444.out) | exact HB.out))) : w.heap.size ≤ gb454)); replace HB := AM (below_step (by repeat (first | (with_reducible first | exact HB.out | apply bA | apply bN | apply bD | refine below_set ?_ (IsS97.ge HI448.out) | refine below_set ?_ GE444.out) | exact HB.out)) hb); have NB444_454 := AM (nl hg (bk BK444)); have NB454_444 := AM (ng hg (bk BK444)); replace BK444 := bw BK444 hb; have NB448_454 := AM ((by rw [hg]; exact Nat.ne_of_lt (IsS97.lt (show IsS97 w _ g448 t445 t452 t453 from by repeat (first | (with_reducible first | exact HI448.out | apply IsS97.alloc | apply IsS97.drewN | apply IsS97.drew | apply IsS97.set_1 | apply IsS97.set_2 | refine IsS97.far ?_ NB448_444.out _) | exact HI448.out))) : g448 ≠ gb454)); have NB454_448 := AM ((by rw [hg]; exact Nat.ne_of_gt (IsS97.lt (show IsS97 w _ g448 t445 t452 t453 from by repeat (first | (with_reducible first | exact HI448.out | apply IsS97.alloc | apply IsS97.drewN | apply IsS97.drew | apply IsS97.set_1 | apply IsS97.set_2 | refine IsS97.far ?_ NB448_444.out _) | exact HI448.out))) : gb454 ≠ g448)); replace HI448 := AM (IsS97.below (by repeat (first | (with_reducible first | exact HI448.out | apply IsS97.alloc | apply IsS97.drewN | apply IsS97.drew | apply IsS97.set_1 | apply IsS97.set_2 | refine IsS97.far ?_ NB448_444.out _) | exact HI448.out)) hb); clear hb hbox hg; obtain ⟨Ao11, co11, eo11⟩ := Kd.R_slice HO451.out; subst eo11; have hnb12 := NB454_444.out; have hnc12 := NB444_454.out; have hnb13 := NB454_448.out; have hnc13 := NB448_454.out; have hcz14_0 := bv BK454 0 (.slice none 0 0); have hfz14_0 := bz BK454 0) | ((with_reducible refine gate_store (t := 30) (p := 7) rfl ?_); refine store_event (t := 30) (p := 7) (v := ?vo_w15) (w1 := (w10.setCell ⟨gb454, 0, none⟩ (.slice Ao11 t449.length co11))) ?hg ?ho ?hn ?hr ?_; (case ho => rfl); (case hg => rfl); (case hn => rfl); (case hr => first | (go_simp; done) | (go_simp; rfl)); intro w15 hw; have n0_ : Aside0 (Kd.R k67 67 w15 w.heap.size (fun _ => True) (.slice Ao11 t449.length co11) t449) := ⟨(by rw [hw]; exact (by exact Kd.R_mono (Kd.R_far (p := ⟨gb454, 0, none⟩) (Kd.R_types HO451.out BK454.out (by decide)) (fun _ hk => hk.2) (.slice Ao11 t449.length co11)) (fun _ hk => trivial)))⟩; have n1_ : Aside0 (w15.heap[gb444]? = some (.cells #[.slice none 0 0] 30 (0, 0))) := ⟨(by rw [hw]; exact (be))⟩; have n2_ : Aside0 (w15.heap[gb454]? = some (.cells #[.slice Ao11 t449.length co11] 30 (0, 0))) := ⟨(by rw [hw]; exact (bp #[.slice none 0 0] 0))⟩; have n3_ : Aside0 (IsS97 w w15 g448 t445 t452 t453) := ⟨(by rw [hw]; exact (by repeat (first | (with_reducible first | exact HI448.out | apply IsS97.alloc | apply IsS97.drewN | apply IsS97.drew | apply IsS97.set_1 | apply IsS97.set_2 | refine IsS97.far ?_ NB448_444.out _ | refine IsS97.far ?_ NB448_454.out _) | exact HI448.out)))⟩; have n4_ : Aside0 (Below w.heap.size w w15) := ⟨(by rw [hw]; exact (by repeat (first | (with_reducible first | exact HB.out | apply bA | apply bN | apply bD | refine below_set ?_ (IsS97.ge HI448.out) | refine below_set ?_ GE444.out | refine below_set ?_ GE454.out) | exact HB.out)))⟩; clear hw; clear HO451; clear BK444; clear BK454; clear HI448; clear HB; have HO451 := n0_; have BK444 := n1_; have BK454 := n2_; have HI448 := n3_; have HB := n4_; clear n0_ n1_ n2_ n3_ n4_; have hcz16_0 := bv BK454 0 (.slice Ao11 t449.length co11); have hfz16_0 := bz BK454 0) | ((with_reducible refine gc 61 rfl ?_); refine gl 15 Try.func61 #[.pointer (some ⟨g448, 0, none⟩), .agg #[.slice Ao11 t449.length co11]] ?_; (with_reducible refine (spec_l03Acts.calls k g448 t445 t452 t453 (fun k_ => some k_ = (.slice Ao11 t449.length co11 : Value).ownBlock) _ _ t449 t455 t458 t459 w _ ?side1 ?side2 ?side3 A4.out).mono ?_); (case side1 => repeat (first | (with_reducible first | exact HI448.out | apply IsS97.alloc | apply IsS97.drewN | apply IsS97.drew | apply IsS97.set_1 | apply IsS97.set_2 | refine IsS97.far ?_ NB448_444.out _ | refine IsS97.far ?_ NB448_454.out _) | exact HI448.out)); (case side2 => repeat (first | (with_reducible first | exact HB.out | apply bA | apply bN | apply bD | refine below_set ?_ (IsS97.ge HI448.out) | refine below_set ?_ GE444.out | refine below_set ?_ GE454.out) | exact HB.out)); (case side3 => exact Kd.V_mono (Kd.R_V (Kd.R_tight rfl (IsS97.apart HI448.out (Kd.R_types (Kd.R_types (HO451.out) BK444.out (by decide)) BK454.out (by decide)) (by decide)))) (fun k_ hk_ => ⟨hk_, ((IsS97.apart HI448.out (Kd.R_types (Kd.R_types (HO451.out) BK444.out (by decide)) BK454.out (by decide)) (by decide)).1 k_ hk_.symm).2⟩)); rintro e w17 ⟨v456, rfl, ho0, hi, hb, hk⟩; refine ⟨_, rfl, ?_⟩; replace BK444 := AM (KeepBut.blk hk (g' := gb444) (o := .cells #[.slice none 0 0] 30 (0, 0)) (bk BK444) NB444_448.out (by simp)); replace HO451 := AM (Kd.R_mono (Kd.R_keep (IsS97.apart (show IsS97 w _ g448 t445 t452 t453 from by repeat (first | (with_reducible first | exact HI448.out | apply IsS97.alloc | apply IsS97.drewN | apply IsS97.drew | apply IsS97.set_1 | apply IsS97.set_2 | refine IsS97.far ?_ NB448_444.out _ | refine IsS97.far ?_ NB448_454.out _) | exact HI448.out)) (by exact HO451.out) (by decide)) hk (fun _ h => h.2)) (fun _ h => h.1)); replace BK454 := AM (KeepBut.blk hk (g' := gb454) (o := .cells #[.slice Ao11 t449.length co11] 30 (0, 0)) (bk BK454) NB454_448.out (by simp)); have HO457 := AM (Kd.R_lower (Kd.R_mono (ok' := fun k_ => True) ho0 (fun _ hk_ => trivial)) (below_size (by repeat (first | (with_reducible first | exact HB.out | apply bA | apply bN | apply bD | refine below_set ?_ (IsS97.ge HI448.out) | refine below_set ?_ GE444.out | refine below_set ?_ GE454.out) | exact HB.out)))); replace HB := AM (hb); replace HI448 := AM (hi); (try clear hb); (try clear hb2); (try clear hk); (try clear hi); (try clear ho0)))
 replace HO451 := AM (Kd.R_drew HO451.out)
 replace HO457 := AM (Kd.R_drew HO457.out)
 replace BK444 := AM (blk_drew BK444.out)
 replace BK454 := AM (blk_drew BK454.out)
 replace HI448 := AM (IsS97.drew HI448.out)
 replace HB := AM (below_drew1 HB.out)
 obtain ⟨Ao19, co19, eo19⟩ := Kd.R_slice HO457.out
 (first | subst eo19 | (injection eo19 with f1_ f2_ f3_; have f4_ := f1_.symm; have f5_ := f3_.symm; clear f1_ f2_ f3_; subst f4_; subst f5_))
 refine sr 13 (fun w' => w'.cell? ⟨gb454, 0, none⟩ = some (.slice Ao11 t449.length co11)) [] (bc BK454 0) (fun hHeld => ?_); refine with_tabW spec_DrawCutActs.tab4 spec_DrawCutActs.bits4 (fun HT_ HW_ => ?_)
 generalize w17.drew = w18 at HO451 HO457 BK444 BK454 HI448 HB hHeld ⊢
 refine pt 1 17 ?_; refine pt 2 18 ?_; refine pt 3 19 ?_; refine pt 4 20 ?_; refine pt 5 21 ?_; refine pt 7 23 ?_; refine tt 0 16 ?_
 refine ot 6 (some 22) fun K hK => ?_
 refine goes_ Try.func62 (by kernel_rfl) rfl #[.pointer (some ⟨g448, 0, none⟩), .int .i64 (wrap64 ((t455.length : Int) + 1))] (by rfl) rfl rfl am ?_
 with_reducible refine (spec_l01Place.calls g448 t445 t458 t459 (wrap64 ((t455.length : Int) + 1)) t460 t461 t462 w _ ?side1 ?side2 A5.out).mono ?_
 (case side1 => repeat (first | (with_reducible first | exact HI448.out | apply IsS97.alloc | apply IsS97.drewN | apply IsS97.drew | apply IsS97.set_1 | apply IsS97.set_2 | refine IsS97.far ?_ NB448_444.out _ | refine IsS97.far ?_ NB448_454.out _) | exact HI448.out))
 (case side2 => repeat (first | (with_reducible first | exact HB.out | apply bA | apply bN | apply bD | refine below_set ?_ (IsS97.ge HI448.out) | refine below_set ?_ GE444.out | refine below_set ?_ GE454.out) | exact HB.out))
 rintro e w20 ⟨rfl, hi, hb, hk⟩
 refine ⟨_, rfl, ?_⟩
 replace BK444 := AM (KeepBut.blk hk (g' := gb444) (o := .cells #[.slice none 0 0] 30 (0, 0)) (bk BK444) NB444_448.out (by simp))
 replace HO451 := AM (Kd.R_mono (Kd.R_keep (IsS97.apart (show IsS97 w _ g448 t445 t458 t459 from by repeat (first | (with_reducible first | exact HI448.out | apply IsS97.alloc | apply IsS97.drewN | apply IsS97.drew | apply IsS97.set_1 | apply IsS97.set_2 | refine IsS97.far ?_ NB448_444.out _ | refine IsS97.far ?_ NB448_454.out _) | exact HI448.out)) (by exact HO451.out) (by decide)) hk (fun _ h => h.2)) (fun _ h => h.1))
 replace BK454 := AM (KeepBut.blk hk (g' := gb454) (o := .cells #[.slice Ao11 t449.length co11] 30 (0, 0)) (bk BK454) NB454_448.out (by simp))
 replace HO457 := AM (Kd.R_mono (Kd.R_keep (IsS97.apart (show IsS97 w _ g448 t445 t458 t459 from by repeat (first | (with_reducible first | exact HI448.out | apply IsS97.alloc | apply IsS97.drewN | apply IsS97.drew | apply IsS97.set_1 | apply IsS97.set_2 | refine IsS97.far ?_ NB448_444.out _ | refine IsS97.far ?_ NB448_454.out _) | exact HI448.out)) (by exact HO457.out) (by decide)) hk (fun _ h => h.2)) (fun _ h => h.1))
 replace HB := AM (hb)
 replace HI448 := AM (hi)
 (try clear hb)
 (try clear hb2)
 (try clear hk)
 (try clear hi)
 refine hK.out _ _ (bc BK454 0) (fun hHeld => ?_)
 clear hK K
 refine nr ?_
 refine ot 8 (some 24) fun K hK => ?_
 refine goes_ Try.func63 (by kernel_rfl) rfl #[.pointer (some ⟨g448, 0, none⟩)] (by rfl) rfl rfl am ?_
 with_reducible refine (spec_l03Left.calls k g448 t445 t461 t462 t463 t466 t467 w _ ?side1 ?side2 A6.out).mono ?_
 (case side1 => repeat (first | (with_reducible first | exact HI448.out | apply IsS97.alloc | apply IsS97.drewN | apply IsS97.drew | apply IsS97.set_1 | apply IsS97.set_2 | refine IsS97.far ?_ NB448_444.out _ | refine IsS97.far ?_ NB448_454.out _) | exact HI448.out))
 (case side2 => repeat (first | (with_reducible first | exact HB.out | apply bA | apply bN | apply bD | refine below_set ?_ (IsS97.ge HI448.out) | refine below_set ?_ GE444.out | refine below_set ?_ GE454.out) | exact HB.out))
 rintro e w21 ⟨v464, rfl, ho0, hi, hb, hk⟩
 refine ⟨_, rfl, ?_⟩
 replace BK444 := AM (KeepBut.blk hk (g' := gb444) (o := .cells #[.slice none 0 0] 30 (0, 0)) (bk BK444) NB444_448.out (by simp))
 replace HO451 := AM (Kd.R_mono (Kd.R_keep (IsS97.apart (show IsS97 w _ g448 t445 t461 t462 from by repeat (first | (with_reducible first | exact HI448.out | apply IsS97.alloc | apply IsS97.drewN | apply IsS97.drew | apply IsS97.set_1 | apply IsS97.set_2 | refine IsS97.far ?_ NB448_444.out _ | refine IsS97.far ?_ NB448_454.out _) | exact HI448.out)) (by exact HO451.out) (by decide)) hk (fun _ h => h.2)) (fun _ h => h.1))
 replace BK454 := AM (KeepBut.blk hk (g' := gb454) (o := .cells #[.slice Ao11 t449.length co11] 30 (0, 0)) (bk BK454) NB454_448.out (by simp))
 replace HO457 := AM (Kd.R_mono (Kd.R_keep (IsS97.apart (show IsS97 w _ g448 t445 t461 t462 from by repeat (first | (with_reducible first | exact HI448.out | apply IsS97.alloc | apply IsS97.drewN | apply IsS97.drew | apply IsS97.set_1 | apply IsS97.set_2 | refine IsS97.far ?_ NB448_444.out _ | refine IsS97.far ?_ NB448_454.out _) | exact HI448.out)) (by exact HO457.out) (by decide)) hk (fun _ h => h.2)) (fun _ h => h.1))
 have HO465 := AM (Kd.R_lower ho0 (below_size (by repeat (first | (with_reducible first | exact HB.out | apply bA | apply bN | apply bD | refine below_set ?_ (IsS97.ge HI448.out) | refine below_set ?_ GE444.out | refine below_set ?_ GE454.out) | exact HB.out))))
 replace HB := AM (hb)
 replace HI448 := AM (hi)
 (try clear hb)
 (try clear hb2)
 (try clear hk)
 (try clear hi)
 (try clear ho0)
 refine hK.out _ _ (bc BK454 0) (fun hHeld => ?_)
 clear hK K
 refine nr ?_
 refine ot 9 none fun K hK => ?_
 have hs22 : w21.cell? ⟨gb444, 0, none⟩ = some (.slice none 0 0) := bc BK444 0
 have hfs22 := bz BK444 0
 have hns22_1 := NB454_444.out
 have hms22_1 := NB444_454.out
 refine sk ?_
 refine hK.out _ _ (((cell_far (p := ⟨gb444, _, none⟩) NB454_444.out _).trans (hHeld))) (fun hHeld => ?_)
 clear hK K
 refine pt 10 3 ?_; refine pt 11 4 ?_; refine pt 12 5 ?_
 refine dn ?_
 try go_wp2
 refine bodyPost_ret (results_list (rs := [.cell 2 30, .tmp 3, .tmp 4, .tmp 5]) rfl (by simp) (.cell gb444 30 #[.slice Ao11 t449.length co11] (0, 0) _ rfl (bp #[.slice none 0 0] 0) Try.underlying30 rfl (by kernel_rfl) (.tmp (.tmp (.tmp .nil))))) rfl ?_
 exact ⟨_, _, _, er, by exact Kd.R_mono (Kd.R_far (p := ⟨gb444, 0, none⟩) (Kd.R_types HO451.out BK444.out (by decide)) (fun _ hk => hk.2) (.slice Ao11 t449.length co11)) (fun _ hk => trivial), by exact Kd.R_mono (Kd.R_far (p := ⟨gb444, 0, none⟩) (Kd.R_types HO457.out BK444.out (by decide)) (fun _ hk => hk.2) (.slice Ao11 t449.length co11)) (fun _ hk => trivial), by exact Kd.R_mono (Kd.R_far (p := ⟨gb444, 0, none⟩) (Kd.R_types HO465.out BK444.out (by decide)) (fun _ hk => hk.2) (.slice Ao11 t449.length co11)) (fun _ hk => trivial), by repeat (first | (with_reducible first | exact HB.out | apply bA | apply bN | apply bD | refine below_set ?_ (IsS97.ge HI448.out) | refine below_set ?_ GE444.out | refine below_set ?_ GE454.out) | exact HB.out)⟩

/-! ### laws_sameDisk: function 35 -/
def laws_sameDisk.l0 : Nat → Int → List (S67) → List (S67) → Option (Bool)
 | 0, _, _, _ => none
 | k + 1, x5, x469000, x470000 => if x5 < (x469000.length : Int) then (if 0 ≤ x5 then (if x5 < (x470000.length : Int) then (if (!((((rd_T67 x469000 x5).f0).toList) == (((rd_T67 x470000 x5).f0).toList)) || (!((((rd_T67 x469000 x5).f1).toList) == (((rd_T67 x470000 x5).f1).toList)) || (!(((rd_T67 x469000 x5).f2) == ((rd_T67 x470000 x5).f2))))) = true then (some false) else (laws_sameDisk.l0 k (wrap64 (x5 + 1)) x469000 x470000)) else (none)) else (none)) else (some true)
def laws_sameDisk.f (k : Nat) (l0_0 : List (S67)) (l1_0 : List (S67)) : Option (Bool) := if (l0_0.length : Int) = (l1_0.length : Int) then (laws_sameDisk.l0 k 0 l0_0 l1_0) else (some false)
theorem laws_sameDisk.mono_l : ∀ k, (∀ y0 y1 y2, LeO (laws_sameDisk.l0 k y0 y1 y2) (laws_sameDisk.l0 (k + 1) y0 y1 y2))
 | 0 => fun _ _ _ r h => by simp [laws_sameDisk.l0] at h
 | k + 1 => by
  have ih0 := laws_sameDisk.mono_l k
  intro y0 y1 y2
  unfold laws_sameDisk.l0
  repeat' first
  | (with_reducible exact LeO.refl _)
  | (with_reducible refine LeO.ite ?_ ?_)
  | (with_reducible refine LeO.bind ?_ (fun _ => ?_))
  | exact ih0 _ _ _
  | exact LeO.none _
  | refine LeO.ite ?_ ?_
  | refine LeO.bind ?_ (fun _ => ?_)
theorem laws_sameDisk.mono : ∀ a0 a1 k, LeO (laws_sameDisk.f k a0 a1) (laws_sameDisk.f (k + 1) a0 a1) := by
 intro a0 a1 k
 have ih0 := laws_sameDisk.mono_l k
 unfold laws_sameDisk.f
 repeat' first
   | (with_reducible exact LeO.refl _)
   | (with_reducible refine LeO.ite ?_ ?_)
   | (with_reducible refine LeO.bind ?_ (fun _ => ?_))
   | exact ih0 _ _ _
   | exact LeO.none _
   | refine LeO.ite ?_ ?_
   | refine LeO.bind ?_ (fun _ => ?_)
set_option maxHeartbeats 8000000 in
set_option maxRecDepth 100000 in
theorem laws_sameDisk.calls (k : Nat) (A0_0 : Option Addr) (c0_0 : Nat) (l0_0 : List (S67)) (A1_0 : Option Addr) (c1_0 : Nat) (l1_0 : List (S67)) (r : Bool) (w : World) (hr0_0 : Kd.C k67 w A0_0 l0_0.length l0_0) (hc0_0 : l0_0.length ≤ c0_0) (hr1_0 : Kd.C k67 w A1_0 l1_0.length l1_0) (hc1_0 : l1_0.length ≤ c1_0) (h : laws_sameDisk.f k l0_0 l1_0 = some r) :
  Calls Try.prog 35 #[.agg #[.slice A0_0 l0_0.length c0_0], .agg #[.slice A1_0 l1_0.length c1_0]] w fun e w' => e = .returned (.bool r) ∧ Below w.heap.size w w' := by
 have hu30 := Try.underlying30
 have hu67 := Try.underlying67
 have HR0_0 := AM hr0_0
 have HC0_0 := AM hc0_0
 clear hr0_0 hc0_0
 have HR1_0 := AM hr1_0
 have HC1_0 := AM hc1_0
 clear hr1_0 hc1_0
 have HB := AM (Below.refl w.heap.size w)
 have H : (if (l0_0.length : Int) = (l1_0.length : Int) then (laws_sameDisk.l0 k 0 l0_0 l1_0) else (some false)) = some r := h
 clear h
 by_cases c3 : (l0_0.length : Int) = (l1_0.length : Int)
 ·rw [if_pos c3] at H
  have c3b0 : ((l0_0.length : Int) == (l1_0.length : Int)) = true := beq_iff_eq.mpr c3
  have c3b1 : ((l0_0.length : Int) != (l1_0.length : Int)) = false := bne_eq_false_iff_eq.mpr c3
  have c3b2 : (l0_0.length == l1_0.length) = true := by first | simpa using c3 | (simp at c3 ⊢; omega)
  clear c3
  have H' := AM H
  clear H
  go_enter Try.func35, Try.ntmps35
  go_wp2_with (first | ((with_reducible refine gd 2 rfl ?_); refine bx (N := 2) (cs := #[.slice A0_0 l0_0.length c0_0]) (t := 30) ?_; intro gb468 hg w4 hbox hb; have BK468 := AM (hbox); have GW468 := AM (bs hg HB); have GE468 := AM (bs hg HB); replace HB := bq HB hb; clear hb hbox hg) | ((with_reducible refine gd 3 rfl ?_); refine bx (N := 3) (cs := #[.slice A1_0 l1_0.length c1_0]) (t := 30) ?_; intro gb469 hg w5 hbox hb; have BK469 := AM (hbox); have GW469 := AM (bt hg hS); have GE469 := AM (bt hg hS); replace HB := AM (below_step (hS) hb); have NB468_469 := AM (nl hg (bk BK468)); have NB469_468 := AM (ng hg (bk BK468)); replace BK468 := bw BK468 hb; clear hb hbox hg; have hnb6 := NB468_469.out; have hnc6 := NB469_468.out; have hcz7_0 := bv BK468 0 (.slice A0_0 l0_0.length c0_0); have hfz7_0 := bz BK468 0; have hcz8_0 := bv BK469 0 (.slice A1_0 l1_0.length c1_0); have hfz8_0 := bz BK469 0))
  repeat (go_quiet (first | ((with_reducible refine gd 2 rfl ?_); refine bx (N := 2) (cs := #[.slice A0_0 l0_0.length c0_0]) (t := 30) ?_; intro gb468 hg w4 hbox hb; have BK468 := AM (hbox); have GW468 := AM (bs hg HB); have GE468 := AM (bs hg HB); replace HB := bq HB hb; clear hb hbox hg) | ((with_reducible refine gd 3 rfl ?_); refine bx (N := 3) (cs := #[.slice A1_0 l1_0.length c1_0]) (t := 30) ?_; intro gb469 hg w5 hbox hb; have BK469 := AM (hbox); have GW469 := AM (bt hg hS); have GE469 := AM (bt hg hS); replace HB := AM (below_step (hS) hb); have NB468_469 := AM (nl hg (bk BK468)); have NB469_468 := AM (ng hg (bk BK468)); replace BK468 := bw BK468 hb; clear hb hbox hg; have hnb6 := NB468_469.out; have hnc6 := NB469_468.out; have hcz7_0 := bv BK468 0 (.slice A0_0 l0_0.length c0_0); have hfz7_0 := bz BK468 0; have hcz8_0 := bv BK469 0 (.slice A1_0 l1_0.length c1_0); have hfz8_0 := bz BK469 0)); try go_wp2_with (first | ((with_reducible refine gd 2 rfl ?_); refine bx (N := 2) (cs := #[.slice A0_0 l0_0.length c0_0]) (t := 30) ?_; intro gb468 hg w4 hbox hb; have BK468 := AM (hbox); have GW468 := AM (bs hg HB); have GE468 := AM (bs hg HB); replace HB := bq HB hb; clear hb hbox hg) | ((with_reducible refine gd 3 rfl ?_); refine bx (N := 3) (cs := #[.slice A1_0 l1_0.length c1_0]) (t := 30) ?_; intro gb469 hg w5 hbox hb; have BK469 := AM (hbox); have GW469 := AM (bt hg hS); have GE469 := AM (bt hg hS); replace HB := AM (below_step (hS) hb); have NB468_469 := AM (nl hg (bk BK468)); have NB469_468 := AM (ng hg (bk BK468)); replace BK468 := bw BK468 hb; clear hb hbox hg; have hnb6 := NB468_469.out; have hnc6 := NB469_468.out; have hcz7_0 := bv BK468 0 (.slice A0_0 l0_0.length c0_0); have hfz7_0 := bz BK468 0; have hcz8_0 := bv BK469 0 (.slice A1_0 l1_0.length c1_0); have hfz8_0 := bz BK469 0)))
  go_loopg [5] k (fun kq v5 w' => ∃ (x5_1 : Int), v5 = .int .i64 x5_1 ∧ Aside0 (laws_sameDisk.l0 kq x5_1 l0_0 l1_0 = some r) ∧ Aside0 (kq ≤ k) ∧ Aside0 (w'.heap[gb468]? = some (.cells #[(.slice A0_0 l0_0.length c0_0)] 30 (0, 0))) ∧ Aside0 (w'.heap[gb469]? = some (.cells #[(.slice A1_0 l1_0.length c1_0)] 30 (0, 0))) ∧ Aside0 (Below w.heap.size w w'))
  case atStart => exact ⟨(0), sf, H', ⟨Nat.le_refl _⟩, ⟨bk BK468⟩, ⟨bk BK469⟩, ⟨hS⟩⟩
  clear H'
  obtain ⟨x5_1, rfl, HA, HK1, BK468, BK469, HB⟩ := hrel
  cases gk with
  | zero => exact absurd HA.out (by simp [laws_sameDisk.l0])
  | succ k1 =>
   have H := HA.out
   clear HA
   simp only [laws_sameDisk.l0] at H
   by_cases c9 : x5_1 < (l0_0.length : Int)
   ·rw [if_pos c9] at H
    have c9b0 : decide (x5_1 < (l0_0.length : Int)) = true := decide_eq_true c9
    clear c9
    by_cases c10 : 0 ≤ x5_1
    ·rw [if_pos c10] at H
     have c10b0 : decide (0 ≤ x5_1) = true := decide_eq_true c10
     clear c10
     by_cases c11 : x5_1 < (l1_0.length : Int)
     ·rw [if_pos c11] at H
      have c11b0 : decide (x5_1 < (l1_0.length : Int)) = true := decide_eq_true c11
      clear c11
      by_cases c12 : (!((((rd_T67 l0_0 x5_1).f0).toList) == (((rd_T67 l1_0 x5_1).f0).toList)) || (!((((rd_T67 l0_0 x5_1).f1).toList) == (((rd_T67 l1_0 x5_1).f1).toList)) || (!(((rd_T67 l0_0 x5_1).f2) == ((rd_T67 l1_0 x5_1).f2))))) = true
      ·rw [if_pos c12] at H
       have c12b0 : (!((((rd_T67 l0_0 x5_1).f0).toList) == (((rd_T67 l1_0 x5_1).f0).toList)) || (!((((rd_T67 l0_0 x5_1).f1).toList) == (((rd_T67 l1_0 x5_1).f1).toList)) || (!(((rd_T67 l0_0 x5_1).f2) == ((rd_T67 l1_0 x5_1).f2))))) = true := c12
       clear c12
       obtain rfl := Option.some.inj H
       have hnb13 := NB468_469.out
       have hnc13 := NB469_468.out
       have hcz14_0 := bv BK468 0 (.slice A0_0 l0_0.length c0_0)
       have hfz14_0 := bz BK468 0
       have p470 : 0 ≤ (x5_1 : Int) := od
       have q470 : x5_1 < (l0_0.length : Int) := od
       obtain ⟨ad470, e470, hx470_0, hx470_1, hx470_2⟩ := at_T67 HR0_0.out x5_1 p470 q470
       cases e470
       replace hx470_0 := cl HB hx470_0
       replace hx470_1 := cl HB hx470_1
       replace hx470_2 := cl HB hx470_2
       replace p470 := eq_true p470
       replace q470 := eq_true q470
       have hcz15_0 := bv BK469 0 (.slice A1_0 l1_0.length c1_0)
       have hfz15_0 := bz BK469 0
       have p471 : 0 ≤ (x5_1 : Int) := od
       have q471 : x5_1 < (l1_0.length : Int) := od
       obtain ⟨ad471, e471, hx471_0, hx471_1, hx471_2⟩ := at_T67 HR1_0.out x5_1 p471 q471
       cases e471
       replace hx471_0 := cl HB hx471_0
       replace hx471_1 := cl HB hx471_1
       replace hx471_2 := cl HB hx471_2
       replace p471 := eq_true p471
       replace q471 := eq_true q471
       go_wp2
       repeat (go_quiet (fail); try go_wp2)
       go_ret
       exact ⟨er, hS⟩
      rw [if_neg c12] at H
      have c12b0 : (!((((rd_T67 l0_0 x5_1).f0).toList) == (((rd_T67 l1_0 x5_1).f0).toList)) || (!((((rd_T67 l0_0 x5_1).f1).toList) == (((rd_T67 l1_0 x5_1).f1).toList)) || (!(((rd_T67 l0_0 x5_1).f2) == ((rd_T67 l1_0 x5_1).f2))))) = false := by simpa using c12
      clear c12
      have H' := AM H
      clear H
      have hnb16 := NB468_469.out
      have hnc16 := NB469_468.out
      have hcz17_0 := bv BK468 0 (.slice A0_0 l0_0.length c0_0)
      have hfz17_0 := bz BK468 0
      have p470 : 0 ≤ (x5_1 : Int) := od
      have q470 : x5_1 < (l0_0.length : Int) := od
      obtain ⟨ad470, e470, hx470_0, hx470_1, hx470_2⟩ := at_T67 HR0_0.out x5_1 p470 q470
      cases e470
      replace hx470_0 := cl HB hx470_0
      replace hx470_1 := cl HB hx470_1
      replace hx470_2 := cl HB hx470_2
      replace p470 := eq_true p470
      replace q470 := eq_true q470
      have hcz18_0 := bv BK469 0 (.slice A1_0 l1_0.length c1_0)
      have hfz18_0 := bz BK469 0
      have p471 : 0 ≤ (x5_1 : Int) := od
      have q471 : x5_1 < (l1_0.length : Int) := od
      obtain ⟨ad471, e471, hx471_0, hx471_1, hx471_2⟩ := at_T67 HR1_0.out x5_1 p471 q471
      cases e471
      replace hx471_0 := cl HB hx471_0
      replace hx471_1 := cl HB hx471_1
      replace hx471_2 := cl HB hx471_2
      replace p471 := eq_true p471
      replace q471 := eq_true q471
      go_wp2
      repeat (go_quiet (fail); try go_wp2)
      go_roundg k1
      case measure => have := HK1.out; omega
      case rel => exact ⟨(wrap64 (x5_1 + 1)), sf, H', ⟨by have := HK1.out; omega⟩, ⟨bk BK468⟩, ⟨bk BK469⟩, ⟨hS⟩⟩
     rw [if_neg c11] at H
     exact absurd H (by simp)
    rw [if_neg c10] at H
    exact absurd H (by simp)
   rw [if_neg c9] at H
   have c9b0 : decide (x5_1 < (l0_0.length : Int)) = false := decide_eq_false c9
   clear c9
   obtain rfl := Option.some.inj H
   have hnb19 := NB468_469.out
   have hnc19 := NB469_468.out
   have hcz20_0 := bv BK468 0 (.slice A0_0 l0_0.length c0_0)
   have hfz20_0 := bz BK468 0
   go_wp2
   repeat (go_quiet (fail); try go_wp2)
   go_ret
   exact ⟨er, hS⟩
 rw [if_neg c3] at H
 have c3b0 : ((l0_0.length : Int) == (l1_0.length : Int)) = false := beq_eq_false_iff_ne.mpr c3
 have c3b1 : ((l0_0.length : Int) != (l1_0.length : Int)) = true := bne_iff_ne.mpr c3
 have c3b2 : (l0_0.length == l1_0.length) = false := by first | simpa using c3 | (simp at c3 ⊢; omega)
 obtain rfl := Option.some.inj H
 go_enter Try.func35, Try.ntmps35
 go_wp2_with (first | ((with_reducible refine gd 2 rfl ?_); refine bx (N := 2) (cs := #[.slice A0_0 l0_0.length c0_0]) (t := 30) ?_; intro gb468 hg w21 hbox hb; have BK468 := AM (hbox); have GW468 := AM (bs hg HB); have GE468 := AM (bs hg HB); replace HB := bq HB hb; clear hb hbox hg) | ((with_reducible refine gd 3 rfl ?_); refine bx (N := 3) (cs := #[.slice A1_0 l1_0.length c1_0]) (t := 30) ?_; intro gb469 hg w22 hbox hb; have BK469 := AM (hbox); have GW469 := AM (bt hg hS); have GE469 := AM (bt hg hS); replace HB := AM (below_step (hS) hb); have NB468_469 := AM (nl hg (bk BK468)); have NB469_468 := AM (ng hg (bk BK468)); replace BK468 := bw BK468 hb; clear hb hbox hg; have hnb23 := NB468_469.out; have hnc23 := NB469_468.out; have hcz24_0 := bv BK468 0 (.slice A0_0 l0_0.length c0_0); have hfz24_0 := bz BK468 0; have hcz25_0 := bv BK469 0 (.slice A1_0 l1_0.length c1_0); have hfz25_0 := bz BK469 0))
 repeat (go_quiet (first | ((with_reducible refine gd 2 rfl ?_); refine bx (N := 2) (cs := #[.slice A0_0 l0_0.length c0_0]) (t := 30) ?_; intro gb468 hg w21 hbox hb; have BK468 := AM (hbox); have GW468 := AM (bs hg HB); have GE468 := AM (bs hg HB); replace HB := bq HB hb; clear hb hbox hg) | ((with_reducible refine gd 3 rfl ?_); refine bx (N := 3) (cs := #[.slice A1_0 l1_0.length c1_0]) (t := 30) ?_; intro gb469 hg w22 hbox hb; have BK469 := AM (hbox); have GW469 := AM (bt hg hS); have GE469 := AM (bt hg hS); replace HB := AM (below_step (hS) hb); have NB468_469 := AM (nl hg (bk BK468)); have NB469_468 := AM (ng hg (bk BK468)); replace BK468 := bw BK468 hb; clear hb hbox hg; have hnb23 := NB468_469.out; have hnc23 := NB469_468.out; have hcz24_0 := bv BK468 0 (.slice A0_0 l0_0.length c0_0); have hfz24_0 := bz BK468 0; have hcz25_0 := bv BK469 0 (.slice A1_0 l1_0.length c1_0); have hfz25_0 := bz BK469 0)); try go_wp2_with (first | ((with_reducible refine gd 2 rfl ?_); refine bx (N := 2) (cs := #[.slice A0_0 l0_0.length c0_0]) (t := 30) ?_; intro gb468 hg w21 hbox hb; have BK468 := AM (hbox); have GW468 := AM (bs hg HB); have GE468 := AM (bs hg HB); replace HB := bq HB hb; clear hb hbox hg) | ((with_reducible refine gd 3 rfl ?_); refine bx (N := 3) (cs := #[.slice A1_0 l1_0.length c1_0]) (t := 30) ?_; intro gb469 hg w22 hbox hb; have BK469 := AM (hbox); have GW469 := AM (bt hg hS); have GE469 := AM (bt hg hS); replace HB := AM (below_step (hS) hb); have NB468_469 := AM (nl hg (bk BK468)); have NB469_468 := AM (ng hg (bk BK468)); replace BK468 := bw BK468 hb; clear hb hbox hg; have hnb23 := NB468_469.out; have hnc23 := NB469_468.out; have hcz24_0 := bv BK468 0 (.slice A0_0 l0_0.length c0_0); have hfz24_0 := bz BK468 0; have hcz25_0 := bv BK469 0 (.slice A1_0 l1_0.length c1_0); have hfz25_0 := bz BK469 0)))
 go_ret
 exact ⟨er, hS⟩

end Go.Proofs.Ytnkldnkolcighaa.XFnActs
