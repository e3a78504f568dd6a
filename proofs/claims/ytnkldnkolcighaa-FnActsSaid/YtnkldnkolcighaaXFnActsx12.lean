/- What the functions of a law compute, and that their calls compute it: written by a program of this session (xprint.py), which turns the kit print at a few places. -/
import Derived.Test.YtnkldnkolcighaaXFnActsx0
import Derived.Test.YtnkldnkolcighaaXFnActsx5
import Derived.Test.YtnkldnkolcighaaXFnActsx10
import Derived.Test.YtnkldnkolcighaaXFnActsx11
namespace Go.Proofs.Ytnkldnkolcighaa.XFnActs
open Go.RowKit Go.Proofs.YtnkldnkolcighaaQ.PrintWords Go.Proofs.YtnkldnkolcighaaQ.PrintLast Go.Proofs.YtnkldnkolcighaaQ.PrintMore
attribute [local go_sem] max2_int min2_int max_two min_two max_three min_three max_four min_four str_geq str_gtr   -- for this text's walks alone
set_option linter.unusedVariables false
set_option linter.unusedSimpArgs false

/-! ### spec_l03Disk: function 60 -/
mutual
def spec_l03Disk.l0 : Nat → Int → List Int → Int → Int → List (S67) → Option ((List (S67)) × Int × Int)
 | 0, _, _, _, _, _ => none
 | k + 1, x4, x1000, x1001, x1002, x296000 => (spec_l01Below.f x1000 x1001 x1002 6).bind fun bt296 => (if x4 < bt296.1 then ((spec_l01Below.f x1000 bt296.2.1 bt296.2.2 9).bind fun bt299 => ((spec_l01Text.f k x1000 bt299.2.1 bt299.2.2 bt299.1).bind fun bt302 => ((spec_l03Named.f x1000 bt302.2.1 bt302.2.2).bind fun bt305 => ((spec_l01Below.f x1000 bt305.2.1 bt305.2.2 (wrap64 ((bt302.1.size : Int) + 1))).bind fun bt308 => ((spec_l03Put.f k x296000 bt305.1 bt302.1 bt308.1).bind fun t311 => (spec_l03Disk.l0 k (wrap64 (x4 + 1)) x1000 bt308.2.1 bt308.2.2 t311)))))) else (if (x296000.length : Int) = 0 then (some (x296000, bt296.2.1, bt296.2.2)) else ((spec_l01Below.f x1000 bt296.2.1 bt296.2.2 (x296000.length : Int)).bind fun bt314 => ((spec_l01Below.f x1000 bt314.2.1 bt314.2.2 40).bind fun bt317 => (if bt317.1 = 0 then (if 0 ≤ bt314.1 then (if bt314.1 < (x296000.length : Int) then ((spec_l01PickInt.f x1000 bt317.2.1 bt317.2.2 (([(-1), wrap64 ((((rd_T67 x296000 bt314.1).f1).size : Int) + 1)] : List Int))).bind fun bt324 => (some ((x296000.set (bt314.1 : Int).toNat (⟨(rd_T67 x296000 bt314.1).f0, (rd_T67 x296000 bt314.1).f1, bt324.1⟩ : S67)), bt324.2.1, bt324.2.2))) else (none)) else (none)) else (if bt317.1 = 1 then (if 0 ≤ bt314.1 then (if bt314.1 < (x296000.length : Int) then (if x296000.length < 3518437208883 then (some ((x296000 ++ [(⟨(rd_T67 x296000 bt314.1).f0, (rd_T67 x296000 bt314.1).f1, (rd_T67 x296000 bt314.1).f2⟩ : S67)]), bt317.2.1, bt317.2.2)) else (none)) else (none)) else (none)) else (if bt317.1 = 2 then ((spec_l01Pick.f x1000 bt317.2.1 bt317.2.2 (([(⟨#[]⟩ : ByteArray), (⟨#[49, 50, 51, 52, 53, 54, 55, 56]⟩ : ByteArray), (⟨#[49, 50, 51, 52, 53, 54, 55, 56, 57]⟩ : ByteArray)] : List ByteArray))).bind fun bt335 => (if 0 ≤ bt314.1 then (if bt314.1 < (x296000.length : Int) then (some ((x296000.set (bt314.1 : Int).toNat (⟨bt335.1, (rd_T67 x296000 bt314.1).f1, (rd_T67 x296000 bt314.1).f2⟩ : S67)), bt335.2.1, bt335.2.2)) else (none)) else (none))) else (if bt317.1 = 3 then (spec_l03Disk.l1 k 0 x1000 bt317.2.1 bt317.2.2 (([] : List (S67)))) else (if bt317.1 = 4 then ((spec_l01Below.f x1000 bt317.2.1 bt317.2.2 3).bind fun bt349 => ((spec_l01Long.f k (wrap64 (19999 + bt349.1)) 65).bind fun t352 => (if 0 ≤ bt314.1 then (if bt314.1 < (x296000.length : Int) then (some ((x296000.set (bt314.1 : Int).toNat (⟨(rd_T67 x296000 bt314.1).f0, t352, (rd_T67 x296000 bt314.1).f2⟩ : S67)), bt349.2.1, bt349.2.2)) else (none)) else (none)))) else (some (x296000, bt317.2.1, bt317.2.2)))))))))))
def spec_l03Disk.l1 : Nat → Int → List Int → Int → Int → List (S67) → Option ((List (S67)) × Int × Int)
 | 0, _, _, _, _, _ => none
 | k + 1, x7, x1000, x1001, x1002, x296000 => (spec_l01Below.f x1000 x1001 x1002 2).bind fun bt342 => (if x7 < (wrap64 (30 + bt342.1)) then ((spec_Decimal.f k (wrap64 (100 + x7))).bind fun t345 => (if 1 + t345.size ≤ 9223372036854775807 then (if x296000.length < 3518437208883 then (spec_l03Disk.l1 k (wrap64 (x7 + 1)) x1000 bt342.2.1 bt342.2.2 (x296000 ++ [(⟨(⟨#[102]⟩ : ByteArray) ++ t345, (⟨#[]⟩ : ByteArray), 0⟩ : S67)])) else (none)) else (none))) else (some (x296000, bt342.2.1, bt342.2.2)))
end
def spec_l03Disk.f (k : Nat) (s0_0 : List Int) (s0_1 : Int) (s0_2 : Int) : Option ((List (S67)) × Int × Int) := spec_l03Disk.l0 k 0 s0_0 s0_1 s0_2 ([] : List (S67))
theorem spec_l03Disk.mono_l : ∀ k, (∀ y0 y1 y2 y3 y4, LeO (spec_l03Disk.l0 k y0 y1 y2 y3 y4) (spec_l03Disk.l0 (k + 1) y0 y1 y2 y3 y4)) ∧ (∀ y0 y1 y2 y3 y4, LeO (spec_l03Disk.l1 k y0 y1 y2 y3 y4) (spec_l03Disk.l1 (k + 1) y0 y1 y2 y3 y4))
 | 0 => ⟨fun _ _ _ _ _ r h => by simp [spec_l03Disk.l0] at h, fun _ _ _ _ _ r h => by simp [spec_l03Disk.l1] at h⟩
 | k + 1 => by
  obtain ⟨ih0, ih1⟩ := spec_l03Disk.mono_l k
  refine ⟨?_, ?_⟩
  ·intro y0 y1 y2 y3 y4
   unfold spec_l03Disk.l0
   repeat' first
   | (with_reducible exact LeO.refl _)
   | (with_reducible refine LeO.ite ?_ ?_)
   | (with_reducible refine LeO.bind ?_ (fun _ => ?_))
   | exact ih0 _ _ _ _ _
   | exact ih1 _ _ _ _ _
   | exact spec_Decimal.mono _ _
   | exact spec_l01Long.mono _ _ _
   | exact spec_l01Text.mono _ _ _ _ _
   | exact spec_l03Put.mono _ _ _ _ _
   | exact LeO.none _
   | refine LeO.ite ?_ ?_
   | refine LeO.bind ?_ (fun _ => ?_)
  intro y0 y1 y2 y3 y4
  unfold spec_l03Disk.l1
  repeat' first
  | (with_reducible exact LeO.refl _)
  | (with_reducible refine LeO.ite ?_ ?_)
  | (with_reducible refine LeO.bind ?_ (fun _ => ?_))
  | exact ih0 _ _ _ _ _
  | exact ih1 _ _ _ _ _
  | exact spec_Decimal.mono _ _
  | exact spec_l01Long.mono _ _ _
  | exact spec_l01Text.mono _ _ _ _ _
  | exact spec_l03Put.mono _ _ _ _ _
  | exact LeO.none _
  | refine LeO.ite ?_ ?_
  | refine LeO.bind ?_ (fun _ => ?_)
theorem spec_l03Disk.mono : ∀ a0 a1 a2 k, LeO (spec_l03Disk.f k a0 a1 a2) (spec_l03Disk.f (k + 1) a0 a1 a2) := by
 intro a0 a1 a2 k
 obtain ⟨ih0, ih1⟩ := spec_l03Disk.mono_l k
 unfold spec_l03Disk.f
 repeat' first
   | (with_reducible exact LeO.refl _)
   | (with_reducible refine LeO.ite ?_ ?_)
   | (with_reducible refine LeO.bind ?_ (fun _ => ?_))
   | exact ih0 _ _ _ _ _
   | exact ih1 _ _ _ _ _
   | exact spec_Decimal.mono _ _
   | exact spec_l01Long.mono _ _ _
   | exact spec_l01Text.mono _ _ _ _ _
   | exact spec_l03Put.mono _ _ _ _ _
   | exact LeO.none _
   | refine LeO.ite ?_ ?_
   | refine LeO.bind ?_ (fun _ => ?_)
def spec_l03Disk.T6 : Bool × List (List Nat × List Nat) := (true, [([], []), ([], []), ([1], [1]), ([], []), ([], []), ([], []), ([5], [5]), ([6], [6]), ([4, 7, 2], [4, 7]), ([2, 3, 8], [2, 3, 8]), ([0, 9, 8], [0, 9]), ([10, 10, 0, 1, 2, 3, 4, 5, 6, 7, 8, 9, 10], [10])])
def spec_l03Disk.B6 : List Nat := [0, 0, 2, 0, 0, 0, 32, 96, 246, 510, 1023, 2047]
theorem spec_l03Disk.tab6 : rtab .any (opsOf Try.f60 6) = spec_l03Disk.T6 := by kernel_rfl
theorem spec_l03Disk.bits6 : waitsOk spec_l03Disk.T6.2 spec_l03Disk.B6 = true := by kernel_rfl
def spec_l03Disk.T12 : Bool × List (List Nat × List Nat) := (true, [([], []), ([0], [0]), ([], []), ([], []), ([], []), ([4], [4]), ([], []), ([5, 6], [5, 6]), ([7], [7]), ([8], [8]), ([9], [9]), ([10], [10]), ([11], [11]), ([3, 12], [3, 12]), ([1, 2, 0, 1, 2, 3, 4, 5, 6, 7, 8, 9, 10, 11, 12, 13], [1, 2]), ([14, 0, 1, 2, 3, 4, 5, 6, 7, 8, 9, 10, 11, 12, 13], [14]), ([15, 13, 13, 0, 1, 2, 3, 4, 5, 6, 7, 8, 9, 10, 11, 12, 13], [13, 15])])
def spec_l03Disk.B12 : List Nat := [0, 1, 0, 0, 0, 16, 0, 112, 240, 496, 1008, 2032, 4080, 8184, 16383, 32767, 65535]
theorem spec_l03Disk.tab12 : rtab .any (opsOf Try.f60 12) = spec_l03Disk.T12 := by kernel_rfl
theorem spec_l03Disk.bits12 : waitsOk spec_l03Disk.T12.2 spec_l03Disk.B12 = true := by kernel_rfl
def spec_l03Disk.T14 : Bool × List (List Nat × List Nat) := (true, [([], []), ([0], [0]), ([], []), ([2], [2]), ([], []), ([3, 4], [3, 4]), ([5], [5]), ([6], [6]), ([1, 7], [1, 7]), ([0, 1, 2, 3, 4, 5, 6, 7, 8], []), ([9, 8, 8, 0, 1, 2, 3, 4, 5, 6, 7, 8], [8, 9])])
def spec_l03Disk.B14 : List Nat := [0, 1, 0, 4, 0, 28, 60, 124, 255, 511, 1023]
theorem spec_l03Disk.tab14 : rtab .any (opsOf Try.f60 14) = spec_l03Disk.T14 := by kernel_rfl
theorem spec_l03Disk.bits14 : waitsOk spec_l03Disk.T14.2 spec_l03Disk.B14 = true := by kernel_rfl
def spec_l03Disk.T16 : Bool × List (List Nat × List Nat) := (true, [([], []), ([0], [0]), ([], []), ([], []), ([], []), ([3, 4], [3, 4]), ([1, 2, 0, 1, 2, 3, 4, 5], [1, 2]), ([6, 0, 1, 2, 3, 4, 5], [6]), ([7, 5, 5, 0, 1, 2, 3, 4, 5], [5, 7])])
def spec_l03Disk.B16 : List Nat := [0, 1, 0, 0, 0, 24, 63, 127, 255]
theorem spec_l03Disk.tab16 : rtab .any (opsOf Try.f60 16) = spec_l03Disk.T16 := by kernel_rfl
theorem spec_l03Disk.bits16 : waitsOk spec_l03Disk.T16.2 spec_l03Disk.B16 = true := by kernel_rfl
def spec_l03Disk.T22 : Bool × List (List Nat × List Nat) := (true, [([], []), ([0], [0]), ([], []), ([2], [2]), ([3], [3]), ([4], [4]), ([5], [5]), ([6], [6]), ([1, 7, 4], [1, 7]), ([0, 1, 2, 3, 4, 5, 6, 7, 8], []), ([9, 8, 8, 0, 1, 2, 3, 4, 5, 6, 7, 8], [8, 9])])
def spec_l03Disk.B22 : List Nat := [0, 1, 0, 4, 12, 28, 60, 124, 255, 511, 1023]
theorem spec_l03Disk.tab22 : rtab .any (opsOf Try.f60 22) = spec_l03Disk.T22 := by kernel_rfl
theorem spec_l03Disk.bits22 : waitsOk spec_l03Disk.T22.2 spec_l03Disk.B22 = true := by kernel_rfl
def spec_l03Disk.T24 : Bool × List (List Nat × List Nat) := (true, [([], []), ([0], [0]), ([], []), ([], []), ([3], [3]), ([4], [4]), ([5, 4], [5]), ([1, 2, 0, 1, 2, 3, 4, 5, 6], [1, 2]), ([7, 0, 1, 2, 3, 4, 5, 6], [7]), ([8, 6, 6, 0, 1, 2, 3, 4, 5, 6], [6, 8])])
def spec_l03Disk.B24 : List Nat := [0, 1, 0, 0, 8, 24, 56, 127, 255, 511]
theorem spec_l03Disk.tab24 : rtab .any (opsOf Try.f60 24) = spec_l03Disk.T24 := by kernel_rfl
theorem spec_l03Disk.bits24 : waitsOk spec_l03Disk.T24.2 spec_l03Disk.B24 = true := by kernel_rfl
set_option maxHeartbeats 8000000 in
set_option maxRecDepth 100000 in
theorem spec_l03Disk.calls (k : Nat) (g : Nat) (s0_0 : List Int) (s0_1 : Int) (s0_2 : Int) (r1 : List (S67)) (r2 : Int) (r3 : Int) (w0 w : World) (hI : IsS97 w0 w g s0_0 s0_1 s0_2) (hB : Below w0.heap.size w0 w) (h : spec_l03Disk.f k s0_0 s0_1 s0_2 = some (r1, r2, r3)) :
  Calls Try.prog 60 #[.pointer (some ⟨g, 0, none⟩)] w fun e w' => ∃ v0_ : Value, e = .returned (.agg #[v0_]) ∧ Kd.R k67 67 w' w.heap.size (fun _ => True) v0_ r1 ∧ IsS97 w0 w' g s0_0 r2 r3 ∧ Below w0.heap.size w0 w' ∧ KeepBut w w' g none := by
 have hu30 := Try.underlying30
 have hu67 := Try.underlying67
 have HI0 := AM hI
 have HK := AM (KeepBut.refl w g none)
 have HL := AM hB.size
 clear hI
 have HW0 := AM hB.size
 have HB := AM hB
 clear hB
 have H : (spec_l03Disk.l0 k 0 s0_0 s0_1 s0_2 ([] : List (S67))) = some (r1, r2, r3) := h
 clear h
 have H' := AM H
 clear H
 go_enter Try.func60, Try.ntmps60
 go_wp2_with (first | ((with_reducible refine gd 2 rfl ?_); refine bx (N := 2) (cs := #[.slice none 0 0]) (t := 30) ?_; intro gb294 hg w2 hbox hb; replace HB := AM (below_step (hI) hb); have BK294 := AM (hbox); have GW294 := AM ((by rw [hg]; exact (keep_size (w := w) (g := g) (row := none) (kI)) : w.heap.size ≤ gb294)); have GE294 := AM ((Nat.le_trans HW0.out (by rw [hg]; exact (keep_size (w := w) (g := g) (row := none) (kI)) : w.heap.size ≤ gb294) : w0.heap.size ≤ gb294)); replace HK := AM (KeepBut.trans (kI) (KeepBut.of_below hb g none) (.inl rfl)); have NB0_294 := AM ((by rw [hg]; exact Nat.ne_of_lt (IsS97.lt (show IsS97 w0 _ g s0_0 s0_1 s0_2 from sI)) : g ≠ gb294)); have NB294_0 := AM ((by rw [hg]; exact Nat.ne_of_gt (IsS97.lt (show IsS97 w0 _ g s0_0 s0_1 s0_2 from sI)) : gb294 ≠ g)); replace HI0 := AM (IsS97.below (sI) hb); clear hb hbox hg) | ((with_reducible refine gd 3 rfl ?_); refine bx (N := 3) (cs := #[.slice none 0 0]) (t := 30) ?_; intro gb295 hg w3 hbox hb; replace HB := AM (below_step (hI) hb); have BK295 := AM (hbox); have GW295 := AM ((by rw [hg]; exact (keep_size (w := w) (g := g) (row := none) (kI)) : w.heap.size ≤ gb295)); have GE295 := AM ((Nat.le_trans HW0.out (by rw [hg]; exact (keep_size (w := w) (g := g) (row := none) (kI)) : w.heap.size ≤ gb295) : w0.heap.size ≤ gb295)); replace HK := AM (KeepBut.trans (kI) (KeepBut.of_below hb g none) (.inl rfl)); have NB294_295 := AM (nl hg (bk BK294)); have NB295_294 := AM (ng hg (bk BK294)); replace BK294 := bw BK294 hb; have NB0_295 := AM ((by rw [hg]; exact Nat.ne_of_lt (IsS97.lt (show IsS97 w0 _ g s0_0 s0_1 s0_2 from sI)) : g ≠ gb295)); have NB295_0 := AM ((by rw [hg]; exact Nat.ne_of_gt (IsS97.lt (show IsS97 w0 _ g s0_0 s0_1 s0_2 from sI)) : gb295 ≠ g)); replace HI0 := AM (IsS97.below (sI) hb); clear hb hbox hg; have hnb4 := NB295_294.out; have hnc4 := NB294_295.out; have hnb5 := NB295_0.out; have hnc5 := NB0_295.out; have hcz6_0 := bv BK295 0 (.slice none 0 0); have hfz6_0 := bz BK295 0))
 go_loopg [4] k (fun kq v4 w' => ∃ (x4_1 : Int) (x1001_1 : Int) (x1002_1 : Int) (x296000_1 : List (S67)) (u296000 : Value), v4 = .int .i64 x4_1 ∧ Aside0 (spec_l03Disk.l0 kq x4_1 s0_0 x1001_1 x1002_1 x296000_1 = some (r1, r2, r3)) ∧ Aside0 (kq ≤ k) ∧ Aside0 (Kd.R k67 67 w' w.heap.size (fun _ => True) u296000 x296000_1) ∧ Aside0 (w'.heap[gb294]? = some (.cells #[(.slice none 0 0)] 30 (0, 0))) ∧ Aside0 (w'.heap[gb295]? = some (.cells #[u296000] 30 (0, 0))) ∧ Aside0 (IsS97 w0 w' g s0_0 x1001_1 x1002_1) ∧ Aside0 (KeepBut w w' g none) ∧ Aside0 (Below w0.heap.size w0 w'))
 case atStart => exact ⟨(0), (s0_1), (s0_2), (([] : List (S67))), (.slice none 0 0), sf, H', ⟨Nat.le_refl _⟩, ⟨by first | exact Kd.R_nil _ _ _ _ _ | exact Kd.N_nil _ _ _ _ _ | exact Kd.V_nil _ _ _ _ _ | exact Kd.Q_nil _ _ _ _ _ | exact Kd.S_nil _ _ _ _ _⟩, ⟨be⟩, ⟨bp #[.slice none 0 0] 0⟩, ⟨sI⟩, ⟨kI⟩, ⟨hI⟩⟩
 clear H'
 obtain ⟨x4_1, x1001_1, x1002_1, x296000_1, u296000, rfl, HA, HK1, HO_296000, BK294, BK295, HI0, HK, HB⟩ := hrel
 cases gk with
 | zero => exact absurd HA.out (by simp [spec_l03Disk.l0])
 | succ k1 =>
  have H := HA.out
  clear HA
  simp only [spec_l03Disk.l0] at H
  replace H := bm H
  obtain ⟨⟨t296, t297, t298⟩, A70, H⟩ := H
  replace H : (if x4_1 < t296 then ((spec_l01Below.f s0_0 t297 t298 9).bind fun bt299 => ((spec_l01Text.f k1 s0_0 bt299.2.1 bt299.2.2 bt299.1).bind fun bt302 => ((spec_l03Named.f s0_0 bt302.2.1 bt302.2.2).bind fun bt305 => ((spec_l01Below.f s0_0 bt305.2.1 bt305.2.2 (wrap64 ((bt302.1.size : Int) + 1))).bind fun bt308 => ((spec_l03Put.f k1 x296000_1 bt305.1 bt302.1 bt308.1).bind fun t311 => (spec_l03Disk.l0 k1 (wrap64 (x4_1 + 1)) s0_0 bt308.2.1 bt308.2.2 t311)))))) else (if (x296000_1.length : Int) = 0 then (some (x296000_1, t297, t298)) else ((spec_l01Below.f s0_0 t297 t298 (x296000_1.length : Int)).bind fun bt314 => ((spec_l01Below.f s0_0 bt314.2.1 bt314.2.2 40).bind fun bt317 => (if bt317.1 = 0 then (if 0 ≤ bt314.1 then (if bt314.1 < (x296000_1.length : Int) then ((spec_l01PickInt.f s0_0 bt317.2.1 bt317.2.2 (([(-1), wrap64 ((((rd_T67 x296000_1 bt314.1).f1).size : Int) + 1)] : List Int))).bind fun bt324 => (some ((x296000_1.set (bt314.1 : Int).toNat (⟨(rd_T67 x296000_1 bt314.1).f0, (rd_T67 x296000_1 bt314.1).f1, bt324.1⟩ : S67)), bt324.2.1, bt324.2.2))) else (none)) else (none)) else (if bt317.1 = 1 then (if 0 ≤ bt314.1 then (if bt314.1 < (x296000_1.length : Int) then (if x296000_1.length < 3518437208883 then (some ((x296000_1 ++ [(⟨(rd_T67 x296000_1 bt314.1).f0, (rd_T67 x296000_1 bt314.1).f1, (rd_T67 x296000_1 bt314.1).f2⟩ : S67)]), bt317.2.1, bt317.2.2)) else (none)) else (none)) else (none)) else (if bt317.1 = 2 then ((spec_l01Pick.f s0_0 bt317.2.1 bt317.2.2 (([(⟨#[]⟩ : ByteArray), (⟨#[49, 50, 51, 52, 53, 54, 55, 56]⟩ : ByteArray), (⟨#[49, 50, 51, 52, 53, 54, 55, 56, 57]⟩ : ByteArray)] : List ByteArray))).bind fun bt335 => (if 0 ≤ bt314.1 then (if bt314.1 < (x296000_1.length : Int) then (some ((x296000_1.set (bt314.1 : Int).toNat (⟨bt335.1, (rd_T67 x296000_1 bt314.1).f1, (rd_T67 x296000_1 bt314.1).f2⟩ : S67)), bt335.2.1, bt335.2.2)) else (none)) else (none))) else (if bt317.1 = 3 then (spec_l03Disk.l1 k1 0 s0_0 bt317.2.1 bt317.2.2 (([] : List (S67)))) else (if bt317.1 = 4 then ((spec_l01Below.f s0_0 bt317.2.1 bt317.2.2 3).bind fun bt349 => ((spec_l01Long.f k1 (wrap64 (19999 + bt349.1)) 65).bind fun t352 => (if 0 ≤ bt314.1 then (if bt314.1 < (x296000_1.length : Int) then (some ((x296000_1.set (bt314.1 : Int).toNat (⟨(rd_T67 x296000_1 bt314.1).f0, t352, (rd_T67 x296000_1 bt314.1).f2⟩ : S67)), bt349.2.1, bt349.2.2)) else (none)) else (none)))) else (some (x296000_1, bt317.2.1, bt317.2.2))))))))))) = some (r1, r2, r3) := H
  have A7 := AM A70
  clear A70
  by_cases c8 : x4_1 < t296
  ·rw [if_pos c8] at H
   have c8b0 : decide (x4_1 < t296) = true := decide_eq_true c8
   clear c8
   replace H := bm H
   obtain ⟨⟨t299, t300, t301⟩, A90, H⟩ := H
   replace H : ((spec_l01Text.f k1 s0_0 t300 t301 t299).bind fun bt302 => ((spec_l03Named.f s0_0 bt302.2.1 bt302.2.2).bind fun bt305 => ((spec_l01Below.f s0_0 bt305.2.1 bt305.2.2 (wrap64 ((bt302.1.size : Int) + 1))).bind fun bt308 => ((spec_l03Put.f k1 x296000_1 bt305.1 bt302.1 bt308.1).bind fun t311 => (spec_l03Disk.l0 k1 (wrap64 (x4_1 + 1)) s0_0 bt308.2.1 bt308.2.2 t311))))) = some (r1, r2, r3) := H
   have A9 := AM A90
   clear A90
   replace H := bm H
   obtain ⟨⟨t302, t303, t304⟩, A100, H⟩ := H
   replace H : ((spec_l03Named.f s0_0 t303 t304).bind fun bt305 => ((spec_l01Below.f s0_0 bt305.2.1 bt305.2.2 (wrap64 ((t302.size : Int) + 1))).bind fun bt308 => ((spec_l03Put.f k1 x296000_1 bt305.1 t302 bt308.1).bind fun t311 => (spec_l03Disk.l0 k1 (wrap64 (x4_1 + 1)) s0_0 bt308.2.1 bt308.2.2 t311)))) = some (r1, r2, r3) := H
   have A10 := AM A100
   clear A100
   replace H := bm H
   obtain ⟨⟨t305, t306, t307⟩, A110, H⟩ := H
   replace H : ((spec_l01Below.f s0_0 t306 t307 (wrap64 ((t302.size : Int) + 1))).bind fun bt308 => ((spec_l03Put.f k1 x296000_1 t305 t302 bt308.1).bind fun t311 => (spec_l03Disk.l0 k1 (wrap64 (x4_1 + 1)) s0_0 bt308.2.1 bt308.2.2 t311))) = some (r1, r2, r3) := H
   have A11 := AM A110
   clear A110
   replace H := bm H
   obtain ⟨⟨t308, t309, t310⟩, A120, H⟩ := H
   replace H : ((spec_l03Put.f k1 x296000_1 t305 t302 t308).bind fun t311 => (spec_l03Disk.l0 k1 (wrap64 (x4_1 + 1)) s0_0 t309 t310 t311)) = some (r1, r2, r3) := H
   have A12 := AM A120
   clear A120
   replace H := bm H
   obtain ⟨t311, A130, H⟩ := H
   replace H : (spec_l03Disk.l0 k1 (wrap64 (x4_1 + 1)) s0_0 t309 t310 t311) = some (r1, r2, r3) := H
   have A13 := AM A130
   clear A130
   have H' := AM H
   clear H
   try go_wp2_with (first | ((with_reducible refine gc 71 rfl ?_); refine gl 11 Try.func71 #[.pointer (some ⟨g, 0, none⟩), .int .i64 6] ?_; (with_reducible refine (spec_l01Below.calls g s0_0 x1001_1 x1002_1 6 t296 t297 t298 w0 _ ?side1 ?side2 A7.out).mono ?_); (case side1 => exact sI); (case side2 => exact hI); rintro e w14 ⟨rfl, hi, hb, hk⟩; refine ⟨_, rfl, ?_⟩; replace HO_296000 := AM (Kd.R_mono (Kd.R_keep (IsS97.apart (show IsS97 w0 _ g s0_0 x1001_1 x1002_1 from sI) (by exact HO_296000.out) (by decide)) hk (fun _ h => h.2)) (fun _ h => h.1)); replace BK294 := AM (KeepBut.blk hk (g' := gb294) (o := .cells #[.slice none 0 0] 30 (0, 0)) (bk BK294) NB294_0.out (by simp)); replace BK295 := AM (KeepBut.blk hk (g' := gb295) (o := .cells #[u296000] 30 (0, 0)) (bk BK295) NB295_0.out (by simp)); replace HK := AM (KeepBut.trans (kI) hk (.inl rfl)); replace HB := AM (hb); replace HI0 := AM (hi); (try clear hb); (try clear hk); (try clear hi)) | ((with_reducible refine gc 71 rfl ?_); refine gl 17 Try.func71 #[.pointer (some ⟨g, 0, none⟩), .int .i64 9] ?_; (with_reducible refine (spec_l01Below.calls g s0_0 t297 t298 9 t299 t300 t301 w0 _ ?side1 ?side2 A9.out).mono ?_); (case side1 => exact sI); (case side2 => exact hI); rintro e w15 ⟨rfl, hi, hb, hk⟩; refine ⟨_, rfl, ?_⟩; replace HO_296000 := AM (Kd.R_mono (Kd.R_keep (IsS97.apart (show IsS97 w0 _ g s0_0 t297 t298 from sI) (by exact HO_296000.out) (by decide)) hk (fun _ h => h.2)) (fun _ h => h.1)); replace BK294 := AM (KeepBut.blk hk (g' := gb294) (o := .cells #[.slice none 0 0] 30 (0, 0)) (bk BK294) NB294_0.out (by simp)); replace BK295 := AM (KeepBut.blk hk (g' := gb295) (o := .cells #[u296000] 30 (0, 0)) (bk BK295) NB295_0.out (by simp)); replace HK := AM (KeepBut.trans (kI) hk (.inl rfl)); replace HB := AM (hb); replace HI0 := AM (hi); (try clear hb); (try clear hk); (try clear hi)) | ((with_reducible refine gc 72 rfl ?_); refine gl 18 Try.func72 #[.pointer (some ⟨g, 0, none⟩), .int .i64 t299] ?_; (with_reducible refine (spec_l01Text.calls k1 g s0_0 t300 t301 t299 t302 t303 t304 w0 _ ?side1 ?side2 A10.out).mono ?_); (case side1 => exact sI); (case side2 => exact hI); rintro e w16 ⟨rfl, hi, hb, hk⟩; refine ⟨_, rfl, ?_⟩; replace HO_296000 := AM (Kd.R_mono (Kd.R_keep (IsS97.apart (show IsS97 w0 _ g s0_0 t300 t301 from sI) (by exact HO_296000.out) (by decide)) hk (fun _ h => h.2)) (fun _ h => h.1)); replace BK294 := AM (KeepBut.blk hk (g' := gb294) (o := .cells #[.slice none 0 0] 30 (0, 0)) (bk BK294) NB294_0.out (by simp)); replace BK295 := AM (KeepBut.blk hk (g' := gb295) (o := .cells #[u296000] 30 (0, 0)) (bk BK295) NB295_0.out (by simp)); replace HK := AM (KeepBut.trans (kI) hk (.inl rfl)); replace HB := AM (hb); replace HI0 := AM (hi); (try clear hb); (try clear hb2); (try clear hk); (try clear hi)))
   replace HO_296000 := AM (Kd.R_drew HO_296000.out)
   replace BK294 := AM (blk_drew BK294.out)
   replace BK295 := AM (blk_drew BK295.out)
   replace HI0 := AM (IsS97.drew HI0.out)
   replace HK := AM (keep_drew HK.out)
   replace HB := AM (below_drew1 HB.out)
   refine sr 12 (fun w' => w'.cell? ⟨gb295, 0, none⟩ = some (u296000)) [11] (bc BK295 0) (fun hHeld => ?_); refine with_tabW spec_l03Disk.tab6 spec_l03Disk.bits6 (fun HT_ HW_ => ?_)
   generalize w16.drew = w17 at HO_296000 BK294 BK295 HI0 HK HB hHeld ⊢
   refine pt 1 20 ?_; refine pt 3 22 ?_; refine pt 4 23 ?_; refine pt 5 24 ?_; refine pt 6 25 ?_; refine pt 7 26 ?_; refine tt 0 19 ?_
   refine ot 2 (some 21) fun K hK => ?_
   refine goes_ Try.func73 (by kernel_rfl) rfl #[.pointer (some ⟨g, 0, none⟩)] (by rfl) rfl rfl am ?_
   with_reducible refine (spec_l03Named.calls g s0_0 t303 t304 t305 t306 t307 w0 _ ?side1 ?side2 A11.out).mono ?_
   (case side1 => exact sI)
   (case side2 => exact hI)
   rintro e w18 ⟨rfl, hi, hb, hk⟩
   refine ⟨_, rfl, ?_⟩
   replace HO_296000 := AM (Kd.R_mono (Kd.R_keep (IsS97.apart (show IsS97 w0 _ g s0_0 t303 t304 from sI) (by exact HO_296000.out) (by decide)) hk (fun _ h => h.2)) (fun _ h => h.1))
   replace BK294 := AM (KeepBut.blk hk (g' := gb294) (o := .cells #[.slice none 0 0] 30 (0, 0)) (bk BK294) NB294_0.out (by simp))
   replace BK295 := AM (KeepBut.blk hk (g' := gb295) (o := .cells #[u296000] 30 (0, 0)) (bk BK295) NB295_0.out (by simp))
   replace HK := AM (KeepBut.trans (kI) hk (.inl rfl))
   replace HB := AM (hb)
   replace HI0 := AM (hi)
   (try clear hb)
   (try clear hb2)
   (try clear hk)
   (try clear hi)
   refine hK.out _ _ (bc BK295 0) (fun hHeld => ?_)
   clear hK K
   refine nr ?_
   refine ot 8 (some 27) fun K hK => ?_
   refine goes_ Try.func71 (by kernel_rfl) rfl #[.pointer (some ⟨g, 0, none⟩), .int .i64 (wrap64 ((t302.size : Int) + 1))] (by rfl) rfl rfl am ?_
   with_reducible refine (spec_l01Below.calls g s0_0 t306 t307 (wrap64 ((t302.size : Int) + 1)) t308 t309 t310 w0 _ ?side1 ?side2 A12.out).mono ?_
   (case side1 => exact sI)
   (case side2 => exact hI)
   rintro e w19 ⟨rfl, hi, hb, hk⟩
   refine ⟨_, rfl, ?_⟩
   replace HO_296000 := AM (Kd.R_mono (Kd.R_keep (IsS97.apart (show IsS97 w0 _ g s0_0 t306 t307 from sI) (by exact HO_296000.out) (by decide)) hk (fun _ h => h.2)) (fun _ h => h.1))
   replace BK294 := AM (KeepBut.blk hk (g' := gb294) (o := .cells #[.slice none 0 0] 30 (0, 0)) (bk BK294) NB294_0.out (by simp))
   replace BK295 := AM (KeepBut.blk hk (g' := gb295) (o := .cells #[u296000] 30 (0, 0)) (bk BK295) NB295_0.out (by simp))
   replace HK := AM (KeepBut.trans (kI) hk (.inl rfl))
   replace HB := AM (hb)
   replace HI0 := AM (hi)
   (try clear hb)
   (try clear hb2)
   (try clear hk)
   (try clear hi)
   obtain ⟨Ao20, co20, eo20⟩ := Kd.R_slice HO_296000.out
   (first | subst eo20 | (injection eo20 with f1_ f2_ f3_; have f4_ := f1_.symm; have f5_ := f3_.symm; clear f1_ f2_ f3_; subst f4_; subst f5_))
   refine hK.out _ _ (bc BK295 0) (fun hHeld => ?_)
   clear hK K
   refine nr ?_
   refine pt 9 28 ?_
   refine ot 10 (some 29) fun K hK => ?_
   refine goes_ Try.func46 (by kernel_rfl) rfl #[.agg #[.slice Ao20 x296000_1.length co20], .agg #[.string t305, .string t302, .int .i64 t308]] (by rfl) rfl rfl am ?_
   with_reducible refine (spec_l03Put.calls k1 _ _ x296000_1 t305 t302 t308 t311 _ ?side1 ?side2 A13.out).mono ?_
   (case side1 => repeat (first | exact (Kd.R_reads' HO_296000.out).2.2 | (with_reducible first | refine cA ?_ _ | refine cN ?_ _ | refine cD ?_)))
   (case side2 => exact (Kd.R_reads' HO_296000.out).2.1)
   rintro e w21 ⟨v312, rfl, ho0, hb⟩
   refine ⟨_, rfl, ?_⟩
   have HO313 := AM (Kd.R_lower (Kd.R_new' ho0 (Kd.R_lt (by exact HO_296000.out))) (keep_size (w := w) (g := g) (row := none) (kI)))
   replace HO_296000 := AM (Kd.R_elder' (by exact HO_296000.out) (Kd.R_base ho0) hb)
   replace BK294 := bw BK294 hb
   replace BK295 := bw BK295 hb
   replace HK := AM (KeepBut.trans (kI) (KeepBut.of_below hb g none) (.inl rfl))
   replace HB := AM (below_step (hI) hb)
   replace HI0 := AM (IsS97.below (sI) hb)
   (try clear hb)
   (try clear hb2)
   (try clear hk)
   (try clear hi)
   (try clear ho0)
   obtain ⟨Ao22, co22, eo22⟩ := Kd.R_slice HO313.out
   (first | subst eo22 | (injection eo22 with f1_ f2_ f3_; have f4_ := f1_.symm; have f5_ := f3_.symm; clear f1_ f2_ f3_; subst f4_; subst f5_))
   refine hK.out _ _ (bc BK295 0) (fun hHeld => ?_)
   clear hK K
   refine nr ?_
   refine zt 11 none fun K hK => ?_
   have hs23 : w21.cell? ⟨gb295, 0, none⟩ = some (.slice Ao20 x296000_1.length co20) := bc BK295 0
   have hfs23 := bz BK295 0
   have hns23_0 := NB294_295.out
   have hms23_0 := NB295_294.out
   refine sk ?_
   refine hK.out _ _ ?_
   clear hK K
   refine dn ?_
   try go_wp2
   go_roundg k1
   case measure => have := HK1.out; omega
   case rel => exact ⟨(wrap64 (x4_1 + 1)), (t309), (t310), (t311), (.slice Ao22 t311.length co22), sf, H', ⟨by have := HK1.out; omega⟩, ⟨by exact Kd.R_mono (Kd.R_far (p := ⟨gb295, 0, none⟩) (Kd.R_types HO313.out BK295.out (by decide)) (fun _ hk => hk.2) (.slice Ao22 t311.length co22)) (fun _ hk => trivial)⟩, ⟨be⟩, ⟨bp #[.slice Ao20 x296000_1.length co20] 0⟩, ⟨sI⟩, ⟨kI⟩, ⟨hI⟩⟩
  rw [if_neg c8] at H
  have c8b0 : decide (x4_1 < t296) = false := decide_eq_false c8
  clear c8
  by_cases c24 : (x296000_1.length : Int) = 0
  ·rw [if_pos c24] at H
   have c24b0 : ((x296000_1.length : Int) == 0) = true := beq_iff_eq.mpr c24
   have c24b1 : ((x296000_1.length : Int) != 0) = false := bne_eq_false_iff_eq.mpr c24
   clear c24
   simp only [Option.some.injEq, Prod.mk.injEq] at H
   obtain ⟨rfl, rfl, rfl⟩ := H
   go_wp2_with (first | ((with_reducible refine gc 71 rfl ?_); refine gl 11 Try.func71 #[.pointer (some ⟨g, 0, none⟩), .int .i64 6] ?_; (with_reducible refine (spec_l01Below.calls g s0_0 x1001_1 x1002_1 6 t296 t297 t298 w0 _ ?side1 ?side2 A7.out).mono ?_); (case side1 => exact sI); (case side2 => exact hI); rintro e w25 ⟨rfl, hi, hb, hk⟩; refine ⟨_, rfl, ?_⟩; replace HO_296000 := AM (Kd.R_mono (Kd.R_keep (IsS97.apart (show IsS97 w0 _ g s0_0 x1001_1 x1002_1 from sI) (by exact HO_296000.out) (by decide)) hk (fun _ h => h.2)) (fun _ h => h.1)); replace BK294 := AM (KeepBut.blk hk (g' := gb294) (o := .cells #[.slice none 0 0] 30 (0, 0)) (bk BK294) NB294_0.out (by simp)); replace BK295 := AM (KeepBut.blk hk (g' := gb295) (o := .cells #[u296000] 30 (0, 0)) (bk BK295) NB295_0.out (by simp)); replace HK := AM (KeepBut.trans (kI) hk (.inl rfl)); replace HB := AM (hb); replace HI0 := AM (hi); (try clear hb); (try clear hk); (try clear hi); have hnb26 := NB295_294.out; have hnc26 := NB294_295.out; have hnb27 := NB295_0.out; have hnc27 := NB0_295.out; have hcz28_0 := bv BK295 0 (u296000); have hfz28_0 := bz BK295 0; obtain ⟨Ao29, co29, eo29⟩ := Kd.R_slice HO_296000.out; subst eo29; have hnb30 := NB294_0.out; have hnc30 := NB0_294.out; have hcz31_0 := bv BK294 0 (.slice none 0 0); have hfz31_0 := bz BK294 0))
   refine bodyPost_ret (results_cell_row rfl _ _ gb294 30 #[.slice Ao29 x296000_1.length co29] (0, 0) _ rfl (bp #[.slice none 0 0] 0) Try.underlying30 rfl (by kernel_rfl)) rfl ?_
   exact ⟨_, er, by exact Kd.R_mono (Kd.R_far (p := ⟨gb294, 0, none⟩) (Kd.R_types HO_296000.out BK294.out (by decide)) (fun _ hk => hk.2) (.slice Ao29 x296000_1.length co29)) (fun _ hk => trivial), sI, hI, kI⟩
  rw [if_neg c24] at H
  have c24b0 : ((x296000_1.length : Int) == 0) = false := beq_eq_false_iff_ne.mpr c24
  have c24b1 : ((x296000_1.length : Int) != 0) = true := bne_iff_ne.mpr c24
  have c24b2 : ¬ (x296000_1 = []) := fun h_ => c24 (by rw [h_]; rfl)
  replace H := bm H
  obtain ⟨⟨t314, t315, t316⟩, A320, H⟩ := H
  replace H : ((spec_l01Below.f s0_0 t315 t316 40).bind fun bt317 => (if bt317.1 = 0 then (if 0 ≤ t314 then (if t314 < (x296000_1.length : Int) then ((spec_l01PickInt.f s0_0 bt317.2.1 bt317.2.2 (([(-1), wrap64 ((((rd_T67 x296000_1 t314).f1).size : Int) + 1)] : List Int))).bind fun bt324 => (some ((x296000_1.set (t314 : Int).toNat (⟨(rd_T67 x296000_1 t314).f0, (rd_T67 x296000_1 t314).f1, bt324.1⟩ : S67)), bt324.2.1, bt324.2.2))) else (none)) else (none)) else (if bt317.1 = 1 then (if 0 ≤ t314 then (if t314 < (x296000_1.length : Int) then (if x296000_1.length < 3518437208883 then (some ((x296000_1 ++ [(⟨(rd_T67 x296000_1 t314).f0, (rd_T67 x296000_1 t314).f1, (rd_T67 x296000_1 t314).f2⟩ : S67)]), bt317.2.1, bt317.2.2)) else (none)) else (none)) else (none)) else (if bt317.1 = 2 then ((spec_l01Pick.f s0_0 bt317.2.1 bt317.2.2 (([(⟨#[]⟩ : ByteArray), (⟨#[49, 50, 51, 52, 53, 54, 55, 56]⟩ : ByteArray), (⟨#[49, 50, 51, 52, 53, 54, 55, 56, 57]⟩ : ByteArray)] : List ByteArray))).bind fun bt335 => (if 0 ≤ t314 then (if t314 < (x296000_1.length : Int) then (some ((x296000_1.set (t314 : Int).toNat (⟨bt335.1, (rd_T67 x296000_1 t314).f1, (rd_T67 x296000_1 t314).f2⟩ : S67)), bt335.2.1, bt335.2.2)) else (none)) else (none))) else (if bt317.1 = 3 then (spec_l03Disk.l1 k1 0 s0_0 bt317.2.1 bt317.2.2 (([] : List (S67)))) else (if bt317.1 = 4 then ((spec_l01Below.f s0_0 bt317.2.1 bt317.2.2 3).bind fun bt349 => ((spec_l01Long.f k1 (wrap64 (19999 + bt349.1)) 65).bind fun t352 => (if 0 ≤ t314 then (if t314 < (x296000_1.length : Int) then (some ((x296000_1.set (t314 : Int).toNat (⟨(rd_T67 x296000_1 t314).f0, t352, (rd_T67 x296000_1 t314).f2⟩ : S67)), bt349.2.1, bt349.2.2)) else (none)) else (none)))) else (some (x296000_1, bt317.2.1, bt317.2.2)))))))) = some (r1, r2, r3) := H
  have A32 := AM A320
  clear A320
  replace H := bm H
  obtain ⟨⟨t317, t318, t319⟩, A330, H⟩ := H
  replace H : (if t317 = 0 then (if 0 ≤ t314 then (if t314 < (x296000_1.length : Int) then ((spec_l01PickInt.f s0_0 t318 t319 (([(-1), wrap64 ((((rd_T67 x296000_1 t314).f1).size : Int) + 1)] : List Int))).bind fun bt324 => (some ((x296000_1.set (t314 : Int).toNat (⟨(rd_T67 x296000_1 t314).f0, (rd_T67 x296000_1 t314).f1, bt324.1⟩ : S67)), bt324.2.1, bt324.2.2))) else (none)) else (none)) else (if t317 = 1 then (if 0 ≤ t314 then (if t314 < (x296000_1.length : Int) then (if x296000_1.length < 3518437208883 then (some ((x296000_1 ++ [(⟨(rd_T67 x296000_1 t314).f0, (rd_T67 x296000_1 t314).f1, (rd_T67 x296000_1 t314).f2⟩ : S67)]), t318, t319)) else (none)) else (none)) else (none)) else (if t317 = 2 then ((spec_l01Pick.f s0_0 t318 t319 (([(⟨#[]⟩ : ByteArray), (⟨#[49, 50, 51, 52, 53, 54, 55, 56]⟩ : ByteArray), (⟨#[49, 50, 51, 52, 53, 54, 55, 56, 57]⟩ : ByteArray)] : List ByteArray))).bind fun bt335 => (if 0 ≤ t314 then (if t314 < (x296000_1.length : Int) then (some ((x296000_1.set (t314 : Int).toNat (⟨bt335.1, (rd_T67 x296000_1 t314).f1, (rd_T67 x296000_1 t314).f2⟩ : S67)), bt335.2.1, bt335.2.2)) else (none)) else (none))) else (if t317 = 3 then (spec_l03Disk.l1 k1 0 s0_0 t318 t319 (([] : List (S67)))) else (if t317 = 4 then ((spec_l01Below.f s0_0 t318 t319 3).bind fun bt349 => ((spec_l01Long.f k1 (wrap64 (19999 + bt349.1)) 65).bind fun t352 => (if 0 ≤ t314 then (if t314 < (x296000_1.length : Int) then (some ((x296000_1.set (t314 : Int).toNat (⟨(rd_T67 x296000_1 t314).f0, t352, (rd_T67 x296000_1 t314).f2⟩ : S67)), bt349.2.1, bt349.2.2)) else (none)) else (none)))) else (some (x296000_1, t318, t319))))))) = some (r1, r2, r3) := H
  have A33 := AM A330
  clear A330
  by_cases c34 : t317 = 0
  ·rw [if_pos c34] at H
   have c34b0 : (t317 == 0) = true := beq_iff_eq.mpr c34
   have c34b1 : (t317 != 0) = false := bne_eq_false_iff_eq.mpr c34
   clear c34
   by_cases c35 : 0 ≤ t314
   ·rw [if_pos c35] at H
    have c35b0 : decide (0 ≤ t314) = true := decide_eq_true c35
    clear c35
    by_cases c36 : t314 < (x296000_1.length : Int)
    ·rw [if_pos c36] at H
     have c36b0 : decide (t314 < (x296000_1.length : Int)) = true := decide_eq_true c36
     clear c36
     obtain ⟨y321, hy321⟩ : ∃ y_ : List Int, y_ = (([(-1), wrap64 ((((rd_T67 x296000_1 t314).f1).size : Int) + 1)] : List Int)) := ⟨_, rfl⟩
     replace H : ((spec_l01PickInt.f s0_0 t318 t319 y321).bind fun bt324 => (some ((x296000_1.set (t314 : Int).toNat (⟨(rd_T67 x296000_1 t314).f0, (rd_T67 x296000_1 t314).f1, bt324.1⟩ : S67)), bt324.2.1, bt324.2.2))) = some (r1, r2, r3) := by first | (rw [hy321]; with_reducible exact H) | (have H2_ := (Option.bind_some _ _).symm.trans H; rw [hy321]; with_reducible exact H2_) | (have H2_ := (Option.bind_some _ _).symm.trans H; with_reducible exact H2_) | with_reducible exact H | (rw [hy321]; exact H) | exact H
     have Ny321 := AM hy321
     clear hy321
     replace H := bm H
     obtain ⟨⟨t324, t325, t326⟩, A370, H⟩ := H
     replace H : (some ((x296000_1.set (t314 : Int).toNat (⟨(rd_T67 x296000_1 t314).f0, (rd_T67 x296000_1 t314).f1, t324⟩ : S67)), t325, t326)) = some (r1, r2, r3) := H
     have A37 := AM A370
     clear A370
     obtain ⟨y327, hy327⟩ : ∃ y_ : List (S67), y_ = (x296000_1.set (t314 : Int).toNat (⟨(rd_T67 x296000_1 t314).f0, (rd_T67 x296000_1 t314).f1, t324⟩ : S67)) := ⟨_, rfl⟩
     replace H : (some (y327, t325, t326)) = some (r1, r2, r3) := by first | (rw [hy327]; with_reducible exact H) | (have H2_ := (Option.bind_some _ _).symm.trans H; rw [hy327]; with_reducible exact H2_) | (have H2_ := (Option.bind_some _ _).symm.trans H; with_reducible exact H2_) | with_reducible exact H | (rw [hy327]; exact H) | exact H
     have Ny327 := AM hy327
     clear hy327
     simp only [Option.some.injEq, Prod.mk.injEq] at H
     obtain ⟨rfl, rfl, rfl⟩ := H
     try go_wp2_with (first | ((with_reducible refine gc 71 rfl ?_); refine gl 11 Try.func71 #[.pointer (some ⟨g, 0, none⟩), .int .i64 6] ?_; (with_reducible refine (spec_l01Below.calls g s0_0 x1001_1 x1002_1 6 t296 t297 t298 w0 _ ?side1 ?side2 A7.out).mono ?_); (case side1 => exact sI); (case side2 => exact hI); rintro e w39 ⟨rfl, hi, hb, hk⟩; refine ⟨_, rfl, ?_⟩; replace HO_296000 := AM (Kd.R_mono (Kd.R_keep (IsS97.apart (show IsS97 w0 _ g s0_0 x1001_1 x1002_1 from sI) (by exact HO_296000.out) (by decide)) hk (fun _ h => h.2)) (fun _ h => h.1)); replace BK294 := AM (KeepBut.blk hk (g' := gb294) (o := .cells #[.slice none 0 0] 30 (0, 0)) (bk BK294) NB294_0.out (by simp)); replace BK295 := AM (KeepBut.blk hk (g' := gb295) (o := .cells #[u296000] 30 (0, 0)) (bk BK295) NB295_0.out (by simp)); replace HK := AM (KeepBut.trans (kI) hk (.inl rfl)); replace HB := AM (hb); replace HI0 := AM (hi); (try clear hb); (try clear hk); (try clear hi); have hnb40 := NB295_294.out; have hnc40 := NB294_295.out; have hnb41 := NB295_0.out; have hnc41 := NB0_295.out; have hcz42_0 := bv BK295 0 (u296000); have hfz42_0 := bz BK295 0; obtain ⟨Ao43, co43, eo43⟩ := Kd.R_slice HO_296000.out; subst eo43) | ((with_reducible refine gc 71 rfl ?_); refine gl 39 Try.func71 #[.pointer (some ⟨g, 0, none⟩), .int .i64 (x296000_1.length : Int)] ?_; (with_reducible refine (spec_l01Below.calls g s0_0 t297 t298 (x296000_1.length : Int) t314 t315 t316 w0 _ ?side1 ?side2 A32.out).mono ?_); (case side1 => exact sI); (case side2 => exact hI); rintro e w44 ⟨rfl, hi, hb, hk⟩; refine ⟨_, rfl, ?_⟩; replace HO_296000 := AM (Kd.R_mono (Kd.R_keep (IsS97.apart (show IsS97 w0 _ g s0_0 t297 t298 from sI) (by exact HO_296000.out) (by decide)) hk (fun _ h => h.2)) (fun _ h => h.1)); replace BK294 := AM (KeepBut.blk hk (g' := gb294) (o := .cells #[.slice none 0 0] 30 (0, 0)) (bk BK294) NB294_0.out (by simp)); replace BK295 := AM (KeepBut.blk hk (g' := gb295) (o := .cells #[.slice Ao43 x296000_1.length co43] 30 (0, 0)) (bk BK295) NB295_0.out (by simp)); replace HK := AM (KeepBut.trans (kI) hk (.inl rfl)); replace HB := AM (hb); replace HI0 := AM (hi); (try clear hb); (try clear hk); (try clear hi)) | ((with_reducible refine gc 71 rfl ?_); refine gl 41 Try.func71 #[.pointer (some ⟨g, 0, none⟩), .int .i64 40] ?_; (with_reducible refine (spec_l01Below.calls g s0_0 t315 t316 40 t317 t318 t319 w0 _ ?side1 ?side2 A33.out).mono ?_); (case side1 => exact sI); (case side2 => exact hI); rintro e w45 ⟨rfl, hi, hb, hk⟩; refine ⟨_, rfl, ?_⟩; replace HO_296000 := AM (Kd.R_mono (Kd.R_keep (IsS97.apart (show IsS97 w0 _ g s0_0 t315 t316 from sI) (by exact HO_296000.out) (by decide)) hk (fun _ h => h.2)) (fun _ h => h.1)); replace BK294 := AM (KeepBut.blk hk (g' := gb294) (o := .cells #[.slice none 0 0] 30 (0, 0)) (bk BK294) NB294_0.out (by simp)); replace BK295 := AM (KeepBut.blk hk (g' := gb295) (o := .cells #[.slice Ao43 x296000_1.length co43] 30 (0, 0)) (bk BK295) NB295_0.out (by simp)); replace HK := AM (KeepBut.trans (kI) hk (.inl rfl)); replace HB := AM (hb); replace HI0 := AM (hi); (try clear hb); (try clear hb2); (try clear hk); (try clear hi)))
     replace HO_296000 := AM (Kd.R_drew HO_296000.out)
     replace BK294 := AM (blk_drew BK294.out)
     replace BK295 := AM (blk_drew BK295.out)
     replace HI0 := AM (IsS97.drew HI0.out)
     replace HK := AM (keep_drew HK.out)
     replace HB := AM (below_drew1 HB.out)
     have p320 : 0 ≤ (t314 : Int) := od
     have q320 : t314 < (x296000_1.length : Int) := od
     obtain ⟨ad320, e320, hx320_0, hx320_1, hx320_2⟩ := at_T67 (Kd.R_reads' HO_296000.out).2.2 t314 p320 q320
     cases e320
     replace p320 := eq_true p320
     replace q320 := eq_true q320
     refine sr 17 (fun w' => w'.cell? ⟨gb295, 0, none⟩ = some (.slice (some ad320) x296000_1.length co43) ∧ w'.cell? (ad320.add ((t314).toNat * 3)) = some (.string ((rd_T67 x296000_1 t314).f0)) ∧ w'.cell? ⟨(ad320.add ((t314).toNat * 3)).block, (ad320.add ((t314).toNat * 3)).off + 1, none⟩ = some (.string ((rd_T67 x296000_1 t314).f1)) ∧ w'.cell? ⟨(ad320.add ((t314).toNat * 3)).block, (ad320.add ((t314).toNat * 3)).off + 2, none⟩ = some (.int .i64 ((rd_T67 x296000_1 t314).f2))) [16] ⟨bc BK295 0, hx320_0, hx320_1, hx320_2⟩ (fun hHeld => ?_); refine with_tabW spec_l03Disk.tab12 spec_l03Disk.bits12 (fun HT_ HW_ => ?_)
     generalize w45.drew = w46 at HO_296000 BK294 BK295 HI0 HK HB hx320_0 hx320_1 hx320_2 hHeld ⊢
     refine pt 0 44 ?_; refine pt 2 46 ?_; refine pt 3 47 ?_; refine pt 4 48 ?_; refine pt 6 50 ?_; refine tt 1 45 ?_; refine tt 5 49 ?_; refine pt 7 51 ?_; refine pt 8 52 ?_; refine tt 9 53 ?_; refine pt 10 54 ?_; refine pt 11 55 ?_
     refine ot 12 (some 56) fun K hK => ?_
     refine Kd.R_lit_step (Kd.int .i64) _ 3 ?hg (N := 56) ?hd (xs := ([(-1), wrap64 ((((rd_T67 x296000_1 t314).f1).size : Int) + 1)] : List Int)) (inner := [.int .i64 (-1), .int .i64 (wrap64 ((((rd_T67 x296000_1 t314).f1).size : Int) + 1))]) (ok := fun _ => True) (okp := fun _ => True) ?hr ?hp (fun _ hk => hk) trivial (Below.refl _ _) (Nat.le_refl _) (by simp) ?_; (case hd => rfl); (case hg => rfl); (case hr => first | (go_simp; done) | (go_simp; rfl)); (case hp => exact (Reps.one (show Kd.M (Kd.int .i64) _ _ _ (-1) [.int .i64 (-1)] from rfl) (Reps.one (show Kd.M (Kd.int .i64) _ _ _ (wrap64 ((((rd_T67 x296000_1 t314).f1).size : Int) + 1)) [.int .i64 (wrap64 ((((rd_T67 x296000_1 t314).f1).size : Int) + 1))] from rfl) (Reps.none _ _))))
     intro v322 w47 ho48 hb hg_ hnew_
     have HS1_ := (hb.cell (World.block_lt_of_cell? _ _ (hHeld.2.1))).trans (hHeld.2.1)
     have HS2_ := (hb.cell (World.block_lt_of_cell? _ _ (hHeld.2.2.1))).trans (hHeld.2.2.1)
     have HS3_ := (hb.cell (World.block_lt_of_cell? _ _ (hHeld.2.2.2))).trans (hHeld.2.2.2)
     clear hg_ hnew_
     (first | rw [← Ny321.out] at ho48 | (simp only [Int.reduceToNat] at ho48; rw [← Ny321.out] at ho48))
     replace HO_296000 := AM (Kd.R_below (by exact HO_296000.out) hb)
     have HO323 := AM (Kd.R_lower ho48 (keep_size (w := w) (g := g) (row := none) (kI)))
     replace BK294 := bw BK294 hb
     replace BK295 := bw BK295 hb
     replace HK := AM (KeepBut.trans (kI) (KeepBut.of_below hb g none) (.inl rfl))
     replace HB := AM (below_step (hI) hb)
     replace HI0 := AM (IsS97.below (sI) hb)
     clear hb ho48
     obtain ⟨Ao49, co49, eo49⟩ := Kd.R_slice HO323.out
     (first | subst eo49 | (injection eo49 with f1_ f2_ f3_; have f4_ := f1_.symm; have f5_ := f3_.symm; clear f1_ f2_ f3_; subst f4_; subst f5_))
     refine hK.out _ _ ⟨bc BK295 0, HS1_, HS2_, HS3_⟩ (fun hHeld => ?_)
     clear hK K
     refine nr ?_
     refine ot 13 (some 57) fun K hK => ?_
     refine goes_ Try.func74 (by kernel_rfl) rfl #[.pointer (some ⟨g, 0, none⟩), .slice Ao49 y321.length co49] (by rfl) rfl rfl am ?_
     with_reducible refine (spec_l01PickInt.calls g s0_0 t318 t319 _ _ y321 t324 t325 t326 w0 _ ?side1 ?side2 ?side3 ?side4 ?side5 A37.out).mono ?_
     (case side1 => exact sI)
     (case side2 => exact hI)
     (case side3 => repeat (first | exact (Kd.R_reads' HO323.out).2.2 | (with_reducible first | refine cA ?_ _ | refine cN ?_ _ | refine cD ?_)))
     (case side4 => exact (Kd.R_reads' HO323.out).2.1)
     (case side5 => exact far_slice (IsS97.own_ne HI0.out HO323.out (by decide)))
     rintro e w50 ⟨rfl, hi, hb, hk⟩
     have HS1_ := keep_cell hk (hHeld.2.1) (by first | (rw [add_block]; exact Kd.own_blk (IsS97.own_ne HI0.out HO_296000.out (by decide))) | (show (Addr.add _ _).block ≠ _; rw [add_block]; exact Kd.own_blk (IsS97.own_ne HI0.out HO_296000.out (by decide))) | exact Kd.own_blk (IsS97.own_ne HI0.out HO_296000.out (by decide)))
     have HS2_ := keep_cell hk (hHeld.2.2.1) (by first | (rw [add_block]; exact Kd.own_blk (IsS97.own_ne HI0.out HO_296000.out (by decide))) | (show (Addr.add _ _).block ≠ _; rw [add_block]; exact Kd.own_blk (IsS97.own_ne HI0.out HO_296000.out (by decide))) | exact Kd.own_blk (IsS97.own_ne HI0.out HO_296000.out (by decide)))
     have HS3_ := keep_cell hk (hHeld.2.2.2) (by first | (rw [add_block]; exact Kd.own_blk (IsS97.own_ne HI0.out HO_296000.out (by decide))) | (show (Addr.add _ _).block ≠ _; rw [add_block]; exact Kd.own_blk (IsS97.own_ne HI0.out HO_296000.out (by decide))) | exact Kd.own_blk (IsS97.own_ne HI0.out HO_296000.out (by decide)))
     refine ⟨_, rfl, ?_⟩
     replace HO_296000 := AM (Kd.R_mono (Kd.R_keep (IsS97.apart (show IsS97 w0 _ g s0_0 t318 t319 from sI) (by exact HO_296000.out) (by decide)) hk (fun _ h => h.2)) (fun _ h => h.1))
     replace BK294 := AM (KeepBut.blk hk (g' := gb294) (o := .cells #[.slice none 0 0] 30 (0, 0)) (bk BK294) NB294_0.out (by simp))
     replace BK295 := AM (KeepBut.blk hk (g' := gb295) (o := .cells #[.slice (some ad320) x296000_1.length co43] 30 (0, 0)) (bk BK295) NB295_0.out (by simp))
     replace HO323 := AM (Kd.R_mono (Kd.R_keep (IsS97.apart (show IsS97 w0 _ g s0_0 t318 t319 from sI) (by exact HO323.out) (by decide)) hk (fun _ h => h.2)) (fun _ h => h.1))
     replace HK := AM (KeepBut.trans (kI) hk (.inl rfl))
     replace HB := AM (hb)
     replace HI0 := AM (hi)
     (try clear hb)
     (try clear hb2)
     (try clear hk)
     (try clear hi)
     have p38 : 0 ≤ (t314 : Int) := od
     have q38 : (t314 : Int) < ((x296000_1.length : Int) : Int) := od
     obtain ⟨go38, co38, eo38, gb38, gl38, cl38, HG38⟩ := Kd.R_form HO_296000.out (by omega)
     (first | cases eo38 | (injection eo38 with ea_ en_ ec_; (first | subst ea_ | (injection ea_ with ea_; subst ea_)); subst ec_; clear en_))
     have GB38 := AM gb38
     have GG38 := AM HG38
     clear gb38 gl38 HG38
     (first | simp only [add_plain] at hx320_0 | skip)
     (first | simp only [add_plain] at hx320_1 | skip)
     (first | simp only [add_plain] at hx320_2 | skip)
     obtain ⟨ce38, hcl38, hM38, hcc38, hfr38⟩ := Kd.R_elem HO_296000.out z67 (t314 : Int) p38 q38
     obtain rfl := k67_openM hM38
     have hx38_0 : World.cell? _ ⟨go38, (t314 : Int).toNat * 3, none⟩ = some (.string ((rd_T67 x296000_1 t314).f0)) := hcc38 0 _ rfl
     have hx38_1 : World.cell? _ ⟨go38, (t314 : Int).toNat * 3 + 1, none⟩ = some (.string ((rd_T67 x296000_1 t314).f1)) := hcc38 1 _ rfl
     have hx38_2 : World.cell? _ ⟨go38, (t314 : Int).toNat * 3 + 2, none⟩ = some (.int .i64 ((rd_T67 x296000_1 t314).f2)) := hcc38 2 _ rfl
     have hf38_0 : World.frozen? _ ⟨go38, (t314 : Int).toNat * 3, none⟩ = false := hfr38 0
     have hf38_1 : World.frozen? _ ⟨go38, (t314 : Int).toNat * 3 + 1, none⟩ = false := hfr38 1
     have hf38_2 : World.frozen? _ ⟨go38, (t314 : Int).toNat * 3 + 2, none⟩ = false := hfr38 2
     (try clear hM38); clear hcl38 hcc38 hfr38
     replace p38 := eq_true p38
     replace q38 := eq_true q38
     have HN0_go38 := AM (show g ≠ go38 from by have h_ := IsS97.own_ne HI0.out HO_296000.out (by decide); intro e_; exact h_ (by rw [e_]; rfl))
     obtain ⟨ce51, hcl51, hM51, hcc51, hfr51⟩ := Kd.R_elem HO_296000.out z67 (t314 : Int) (od) (by have h_ : (t314 : Int) < ((x296000_1.length : Int) : Int) := od; first | exact h_ | (have e_ := (Kd.R_reads' HO_296000.out).1; omega) | simpa using h_)
     obtain rfl := k67_openM hM51
     have HP51 := (Kd.R_seg HO_296000.out (t314 : Int) (od) (by have h_ : (t314 : Int) < ((x296000_1.length : Int) : Int) := od; first | exact h_ | (have e_ := (Kd.R_reads' HO_296000.out).1; omega) | simpa using h_) (seg := [.int .i64 t324]) (j := 2) hcl51 hcc51 (show 3 ≤ 3 from by decide) (x' := (⟨(rd_T67 x296000_1 t314).f0, (rd_T67 x296000_1 t314).f1, t324⟩ : S67)) (k67_mkM _ _ _ (⟨(rd_T67 x296000_1 t314).f0, (rd_T67 x296000_1 t314).f1, t324⟩ : S67) ) (fun _ hk => hk)).1
     rw [← Ny327.out] at HP51
     have HQ51 := AM HP51
     (try clear hM51); clear hcl51 hcc51 hfr51 HP51
     refine hK.out _ _ ⟨bc BK295 0, HS1_, HS2_, HS3_⟩ (fun hHeld => ?_)
     clear hK K
     refine nr ?_
     refine pt 14 58 ?_; refine pt 15 59 ?_
     refine zt 16 none fun K hK => ?_
     refine sk ?_
     refine hK.out _ _ ?_
     clear hK K
     refine dn ?_
     have n0_ : Aside0 (Kd.R k67 67 (w50.setCell ⟨go38, (t314 : Int).toNat * 3 + 2, none⟩ (.int .i64 t324)) w.heap.size (fun _ => True) (.slice (some ⟨go38, 0, none⟩) x296000_1.length co43) y327) := ⟨by exact HQ51.out⟩
     have n1_ : Aside0 (Kd.R (Kd.int .i64) 3 (w50.setCell ⟨go38, (t314 : Int).toNat * 3 + 2, none⟩ (.int .i64 t324)) w.heap.size (fun _ => True) (.slice Ao49 y321.length co49) y321) := ⟨by exact Kd.R_mono (Kd.R_far (p := ⟨go38, (t314 : Int).toNat * 3 + 2, none⟩) (Kd.R_types HO323.out GG38.out (by decide)) (fun _ hk => hk.2) (.int .i64 t324)) (fun _ hk => trivial)⟩
     have n2_ : Aside0 ((w50.setCell ⟨go38, (t314 : Int).toNat * 3 + 2, none⟩ (.int .i64 t324)).heap[gb294]? = some (.cells #[.slice none 0 0] 30 (0, 0))) := ⟨by (with_reducible repeat first | apply aN | apply aD | apply aA); refine blk_far ?_ (by have h_ := Kd.R_ne HO_296000.out BK294.out (by decide); intro e_; exact h_ (by rw [e_]; rfl)) _; exact bk BK294⟩
     have n3_ : Aside0 ((w50.setCell ⟨go38, (t314 : Int).toNat * 3 + 2, none⟩ (.int .i64 t324)).heap[gb295]? = some (.cells #[.slice (some ⟨go38, 0, none⟩) x296000_1.length co43] 30 (0, 0))) := ⟨by (with_reducible repeat first | apply aN | apply aD | apply aA); refine blk_far ?_ (by have h_ := Kd.R_ne HO_296000.out BK295.out (by decide); intro e_; exact h_ (by rw [e_]; rfl)) _; exact bk BK295⟩
     have n4_ : Aside0 (IsS97 w0 (w50.setCell ⟨go38, (t314 : Int).toNat * 3 + 2, none⟩ (.int .i64 t324)) g s0_0 t325 t326) := ⟨sI⟩
     have n5_ : Aside0 (KeepBut w (w50.setCell ⟨go38, (t314 : Int).toNat * 3 + 2, none⟩ (.int .i64 t324)) g none) := ⟨kI⟩
     have n6_ : Aside0 (Below w0.heap.size w0 (w50.setCell ⟨go38, (t314 : Int).toNat * 3 + 2, none⟩ (.int .i64 t324))) := ⟨by repeat (first | (with_reducible first | exact HB.out | apply bA | apply bN | apply bD | refine below_set ?_ (Nat.le_trans HL.out GB38.out) | refine below_set ?_ (IsS97.ge HI0.out) | refine below_set ?_ GE294.out | refine below_set ?_ GE295.out) | exact HB.out)⟩
     (try clear HO_296000)
     (try clear HO323)
     (try clear BK294)
     (try clear BK295)
     (try clear HI0)
     (try clear HK)
     (try clear HB)
     generalize (w50.setCell ⟨go38, (t314 : Int).toNat * 3 + 2, none⟩ (.int .i64 t324)) = w52 at n0_ n1_ n2_ n3_ n4_ n5_ n6_ ⊢
     have HO_296000 := n0_
     have HO323 := n1_
     have BK294 := n2_
     have BK295 := n3_
     have HI0 := n4_
     have HK := n5_
     have HB := n6_
     clear n0_ n1_ n2_ n3_ n4_ n5_ n6_
     have hcz53_0 := bv BK295 0 (.slice (some ⟨go38, 0, none⟩) x296000_1.length co43)
     have hfz53_0 := bz BK295 0
     have hnb54 := NB294_0.out
     have hnc54 := NB0_294.out
     have hcz55_0 := bv BK294 0 (.slice none 0 0)
     have hfz55_0 := bz BK294 0
     try go_wp2
     refine bodyPost_ret (results_cell_row rfl _ _ gb294 30 #[.slice (some ⟨go38, 0, none⟩) x296000_1.length co43] (0, 0) _ rfl (bp #[.slice none 0 0] 0) Try.underlying30 rfl (by kernel_rfl)) rfl ?_
     exact ⟨_, er, by exact Kd.R_mono (Kd.R_far (p := ⟨gb294, 0, none⟩) (Kd.R_types HO_296000.out BK294.out (by decide)) (fun _ hk => hk.2) (.slice (some ⟨go38, 0, none⟩) x296000_1.length co43)) (fun _ hk => trivial), sI, hI, kI⟩
    rw [if_neg c36] at H
    exact absurd H (by simp)
   rw [if_neg c35] at H
   exact absurd H (by simp)
  rw [if_neg c34] at H
  have c34b0 : (t317 == 0) = false := beq_eq_false_iff_ne.mpr c34
  have c34b1 : (t317 != 0) = true := bne_iff_ne.mpr c34
  by_cases c56 : t317 = 1
  ·rw [if_pos c56] at H
   have c56b0 : (t317 == 1) = true := beq_iff_eq.mpr c56
   have c56b1 : (t317 != 1) = false := bne_eq_false_iff_eq.mpr c56
   clear c56
   by_cases c57 : 0 ≤ t314
   ·rw [if_pos c57] at H
    have c57b0 : decide (0 ≤ t314) = true := decide_eq_true c57
    clear c57
    by_cases c58 : t314 < (x296000_1.length : Int)
    ·rw [if_pos c58] at H
     have c58b0 : decide (t314 < (x296000_1.length : Int)) = true := decide_eq_true c58
     clear c58
     by_cases c59 : x296000_1.length < 3518437208883
     ·rw [if_pos c59] at H
      have LMc59 := AM c59
      clear c59
      obtain ⟨y329, hy329⟩ : ∃ y_ : List (S67), y_ = (x296000_1 ++ [(⟨(rd_T67 x296000_1 t314).f0, (rd_T67 x296000_1 t314).f1, (rd_T67 x296000_1 t314).f2⟩ : S67)]) := ⟨_, rfl⟩
      replace H : (some (y329, t318, t319)) = some (r1, r2, r3) := by first | (rw [hy329]; with_reducible exact H) | (have H2_ := (Option.bind_some _ _).symm.trans H; rw [hy329]; with_reducible exact H2_) | (have H2_ := (Option.bind_some _ _).symm.trans H; with_reducible exact H2_) | with_reducible exact H | (rw [hy329]; exact H) | exact H
      have Ny329 := AM hy329
      clear hy329
      simp only [Option.some.injEq, Prod.mk.injEq] at H
      obtain ⟨rfl, rfl, rfl⟩ := H
      try go_wp2_with (first | ((with_reducible refine gc 71 rfl ?_); refine gl 11 Try.func71 #[.pointer (some ⟨g, 0, none⟩), .int .i64 6] ?_; (with_reducible refine (spec_l01Below.calls g s0_0 x1001_1 x1002_1 6 t296 t297 t298 w0 _ ?side1 ?side2 A7.out).mono ?_); (case side1 => exact sI); (case side2 => exact hI); rintro e w60 ⟨rfl, hi, hb, hk⟩; refine ⟨_, rfl, ?_⟩; replace HO_296000 := AM (Kd.R_mono (Kd.R_keep (IsS97.apart (show IsS97 w0 _ g s0_0 x1001_1 x1002_1 from sI) (by exact HO_296000.out) (by decide)) hk (fun _ h => h.2)) (fun _ h => h.1)); replace BK294 := AM (KeepBut.blk hk (g' := gb294) (o := .cells #[.slice none 0 0] 30 (0, 0)) (bk BK294) NB294_0.out (by simp)); replace BK295 := AM (KeepBut.blk hk (g' := gb295) (o := .cells #[u296000] 30 (0, 0)) (bk BK295) NB295_0.out (by simp)); replace HK := AM (KeepBut.trans (kI) hk (.inl rfl)); replace HB := AM (hb); replace HI0 := AM (hi); (try clear hb); (try clear hk); (try clear hi); have hnb61 := NB295_294.out; have hnc61 := NB294_295.out; have hnb62 := NB295_0.out; have hnc62 := NB0_295.out; have hcz63_0 := bv BK295 0 (u296000); have hfz63_0 := bz BK295 0; obtain ⟨Ao64, co64, eo64⟩ := Kd.R_slice HO_296000.out; subst eo64) | ((with_reducible refine gc 71 rfl ?_); refine gl 39 Try.func71 #[.pointer (some ⟨g, 0, none⟩), .int .i64 (x296000_1.length : Int)] ?_; (with_reducible refine (spec_l01Below.calls g s0_0 t297 t298 (x296000_1.length : Int) t314 t315 t316 w0 _ ?side1 ?side2 A32.out).mono ?_); (case side1 => exact sI); (case side2 => exact hI); rintro e w65 ⟨rfl, hi, hb, hk⟩; refine ⟨_, rfl, ?_⟩; replace HO_296000 := AM (Kd.R_mono (Kd.R_keep (IsS97.apart (show IsS97 w0 _ g s0_0 t297 t298 from sI) (by exact HO_296000.out) (by decide)) hk (fun _ h => h.2)) (fun _ h => h.1)); replace BK294 := AM (KeepBut.blk hk (g' := gb294) (o := .cells #[.slice none 0 0] 30 (0, 0)) (bk BK294) NB294_0.out (by simp)); replace BK295 := AM (KeepBut.blk hk (g' := gb295) (o := .cells #[.slice Ao64 x296000_1.length co64] 30 (0, 0)) (bk BK295) NB295_0.out (by simp)); replace HK := AM (KeepBut.trans (kI) hk (.inl rfl)); replace HB := AM (hb); replace HI0 := AM (hi); (try clear hb); (try clear hk); (try clear hi)) | ((with_reducible refine gc 71 rfl ?_); refine gl 41 Try.func71 #[.pointer (some ⟨g, 0, none⟩), .int .i64 40] ?_; (with_reducible refine (spec_l01Below.calls g s0_0 t315 t316 40 t317 t318 t319 w0 _ ?side1 ?side2 A33.out).mono ?_); (case side1 => exact sI); (case side2 => exact hI); rintro e w66 ⟨rfl, hi, hb, hk⟩; refine ⟨_, rfl, ?_⟩; replace HO_296000 := AM (Kd.R_mono (Kd.R_keep (IsS97.apart (show IsS97 w0 _ g s0_0 t315 t316 from sI) (by exact HO_296000.out) (by decide)) hk (fun _ h => h.2)) (fun _ h => h.1)); replace BK294 := AM (KeepBut.blk hk (g' := gb294) (o := .cells #[.slice none 0 0] 30 (0, 0)) (bk BK294) NB294_0.out (by simp)); replace BK295 := AM (KeepBut.blk hk (g' := gb295) (o := .cells #[.slice Ao64 x296000_1.length co64] 30 (0, 0)) (bk BK295) NB295_0.out (by simp)); replace HK := AM (KeepBut.trans (kI) hk (.inl rfl)); replace HB := AM (hb); replace HI0 := AM (hi); (try clear hb); (try clear hk); (try clear hi)))
      replace HO_296000 := AM (Kd.R_drew HO_296000.out)
      replace BK294 := AM (blk_drew BK294.out)
      replace BK295 := AM (blk_drew BK295.out)
      replace HI0 := AM (IsS97.drew HI0.out)
      replace HK := AM (keep_drew HK.out)
      replace HB := AM (below_drew1 HB.out)
      have p328 : 0 ≤ (t314 : Int) := od
      have q328 : t314 < (x296000_1.length : Int) := od
      obtain ⟨ad328, e328, hx328_0, hx328_1, hx328_2⟩ := at_T67 (Kd.R_reads' HO_296000.out).2.2 t314 p328 q328
      cases e328
      replace p328 := eq_true p328
      replace q328 := eq_true q328
      refine sr 11 (fun w' => w'.cell? ⟨gb295, 0, none⟩ = some (.slice (some ad328) x296000_1.length co64) ∧ w'.cell? (ad328.add ((t314).toNat * 3)) = some (.string ((rd_T67 x296000_1 t314).f0)) ∧ w'.cell? ⟨(ad328.add ((t314).toNat * 3)).block, (ad328.add ((t314).toNat * 3)).off + 1, none⟩ = some (.string ((rd_T67 x296000_1 t314).f1)) ∧ w'.cell? ⟨(ad328.add ((t314).toNat * 3)).block, (ad328.add ((t314).toNat * 3)).off + 2, none⟩ = some (.int .i64 ((rd_T67 x296000_1 t314).f2))) [8, 10] ⟨bc BK295 0, hx328_0, hx328_1, hx328_2⟩ (fun hHeld => ?_); refine with_tabW spec_l03Disk.tab14 spec_l03Disk.bits14 (fun HT_ HW_ => ?_)
      generalize w66.drew = w67 at HO_296000 BK294 BK295 HI0 HK HB hx328_0 hx328_1 hx328_2 hHeld ⊢
      refine pt 0 62 ?_; refine pt 2 64 ?_; refine pt 4 66 ?_; refine tt 1 63 ?_; refine tt 3 65 ?_; refine pt 5 67 ?_; refine tt 6 68 ?_
      refine ot 7 (some 69) fun K hK => ?_
      refine vl ?_
      refine hK.out _ _ ⟨(blk_cell (blk_alloc BK295.out _) 0).trans rfl, (World.cell?_alloc_lt _ _ _ (World.block_lt_of_cell? _ _ (hHeld.2.1))).trans (hHeld.2.1), (World.cell?_alloc_lt _ _ _ (World.block_lt_of_cell? _ _ (hHeld.2.2.1))).trans (hHeld.2.2.1), (World.cell?_alloc_lt _ _ _ (World.block_lt_of_cell? _ _ (hHeld.2.2.2))).trans (hHeld.2.2.2)⟩ (fun hHeld => ?_)
      clear hK K
      refine nr ?_
      refine zt 8 (some 70) fun K hK => ?_
      refine Kd.R_append_step k67 w.heap.size (by rfl) (.tmp 63) (.tmp 69) 28 67 (.agg #[(.string ⟨#[]⟩), (.string ⟨#[]⟩), (.int .i64 0)]) 40 rfl Try.underlying28 info67 rfl (by decide) (by omega) (.slice (some ad328) x296000_1.length co64) x296000_1 (⟨(rd_T67 x296000_1 t314).f0, (rd_T67 x296000_1 t314).f1, (rd_T67 x296000_1 t314).f2⟩ : S67) [.string ((rd_T67 x296000_1 t314).f0), .string ((rd_T67 x296000_1 t314).f1), .int .i64 ((rd_T67 x296000_1 t314).f2)] (fun _ => True) (fun _ => False) rfl rfl ?aP (fun _ hk => hk.elim) ?aF ?aO (Below.refl _ _) ?aS ?aL ?_
      (case aP => exact k67_mkM _ _ _ (⟨(rd_T67 x296000_1 t314).f0, (rd_T67 x296000_1 t314).f1, (rd_T67 x296000_1 t314).f2⟩ : S67))
      (case aF => exact (fun _ _ => trivial))
      (case aO => exact (by exact HO_296000.out))
      (case aS => exact (keep_size (w := w) (g := g) (row := none) (kI)))
      (case aL => have := LMc59.out; omega)
      intro v330 w68 ho hb hg hat
      rw [← Ny329.out] at ho
      replace BK294 := AM (blk_grown (g := gb294) (o := .cells #[.slice none 0 0] 30 (0, 0)) (bk BK294) hg (Kd.R_ne HO_296000.out BK294.out (by decide)))
      replace BK295 := AM (blk_grown (g := gb295) (o := .cells #[.slice (some ad328) x296000_1.length co64] 30 (0, 0)) (bk BK295) hg (Kd.R_ne HO_296000.out BK295.out (by decide)))
      replace HB := AM (below_weaken (hI) HL.out hb)
      replace HI0 := AM (IsS97.grown (sI) hg (IsS97.own_ne HI0.out HO_296000.out (by decide)))
      replace HK := AM (KeepBut.trans (kI) (KeepBut.of_grown hg g) (Kd.R_base2 HO_296000.out))
      have HO331 := AM (ho)
      clear HO_296000
      clear ho hb hg hat
      obtain ⟨Ao69, co69, eo69⟩ := Kd.R_slice HO331.out
      (first | subst eo69 | (injection eo69 with f1_ f2_ f3_; have f4_ := f1_.symm; have f5_ := f3_.symm; clear f1_ f2_ f3_; subst f4_; subst f5_))
      refine hK.out _ _ ?_
      clear hK K
      refine nr ?_
      refine pt 9 71 ?_
      refine zt 10 none fun K hK => ?_
      have hs70 : w68.cell? ⟨gb295, 0, none⟩ = some (.slice (some ad328) x296000_1.length co64) := bc BK295 0
      have hfs70 := bz BK295 0
      have hns70_0 := NB294_295.out
      have hms70_0 := NB295_294.out
      refine sk ?_
      refine hK.out _ _ ?_
      clear hK K
      refine dn ?_
      have hcz71_0 := bv BK295 0 (.slice (some ad328) x296000_1.length co64)
      have hfz71_0 := bz BK295 0
      have hnb72 := NB294_0.out
      have hnc72 := NB0_294.out
      have hcz73_0 := bv BK294 0 (.slice none 0 0)
      have hfz73_0 := bz BK294 0
      try go_wp2
      refine bodyPost_ret (results_cell_row rfl _ _ gb294 30 #[.slice Ao69 y329.length co69] (0, 0) _ rfl (bp #[.slice none 0 0] 0) Try.underlying30 rfl (by kernel_rfl)) rfl ?_
      exact ⟨_, er, by exact Kd.R_mono (Kd.R_far (p := ⟨gb294, 0, none⟩) (Kd.R_far (p := ⟨gb295, 0, none⟩) (Kd.R_types (Kd.R_types HO331.out BK295.out (by decide)) BK294.out (by decide)) (fun _ hk => hk.1.2) (.slice Ao69 y329.length co69)) (fun _ hk => hk.2) (.slice Ao69 y329.length co69)) (fun _ hk => trivial), sI, hI, kI⟩
     rw [if_neg c59] at H
     exact absurd H (by simp)
    rw [if_neg c58] at H
    exact absurd H (by simp)
   rw [if_neg c57] at H
   exact absurd H (by simp)
  rw [if_neg c56] at H
  have c56b0 : (t317 == 1) = false := beq_eq_false_iff_ne.mpr c56
  have c56b1 : (t317 != 1) = true := bne_iff_ne.mpr c56
  by_cases c74 : t317 = 2
  ·rw [if_pos c74] at H
   have c74b0 : (t317 == 2) = true := beq_iff_eq.mpr c74
   have c74b1 : (t317 != 2) = false := bne_eq_false_iff_eq.mpr c74
   clear c74
   obtain ⟨y332, hy332⟩ : ∃ y_ : List ByteArray, y_ = (([(⟨#[]⟩ : ByteArray), (⟨#[49, 50, 51, 52, 53, 54, 55, 56]⟩ : ByteArray), (⟨#[49, 50, 51, 52, 53, 54, 55, 56, 57]⟩ : ByteArray)] : List ByteArray)) := ⟨_, rfl⟩
   replace H : ((spec_l01Pick.f s0_0 t318 t319 y332).bind fun bt335 => (if 0 ≤ t314 then (if t314 < (x296000_1.length : Int) then (some ((x296000_1.set (t314 : Int).toNat (⟨bt335.1, (rd_T67 x296000_1 t314).f1, (rd_T67 x296000_1 t314).f2⟩ : S67)), bt335.2.1, bt335.2.2)) else (none)) else (none))) = some (r1, r2, r3) := by first | (rw [hy332]; with_reducible exact H) | (have H2_ := (Option.bind_some _ _).symm.trans H; rw [hy332]; with_reducible exact H2_) | (have H2_ := (Option.bind_some _ _).symm.trans H; with_reducible exact H2_) | with_reducible exact H | (rw [hy332]; exact H) | exact H
   have Ny332 := AM hy332
   clear hy332
   replace H := bm H
   obtain ⟨⟨t335, t336, t337⟩, A750, H⟩ := H
   replace H : (if 0 ≤ t314 then (if t314 < (x296000_1.length : Int) then (some ((x296000_1.set (t314 : Int).toNat (⟨t335, (rd_T67 x296000_1 t314).f1, (rd_T67 x296000_1 t314).f2⟩ : S67)), t336, t337)) else (none)) else (none)) = some (r1, r2, r3) := H
   have A75 := AM A750
   clear A750
   by_cases c76 : 0 ≤ t314
   ·rw [if_pos c76] at H
    have c76b0 : decide (0 ≤ t314) = true := decide_eq_true c76
    clear c76
    by_cases c77 : t314 < (x296000_1.length : Int)
    ·rw [if_pos c77] at H
     have c77b0 : decide (t314 < (x296000_1.length : Int)) = true := decide_eq_true c77
     clear c77
     obtain ⟨y338, hy338⟩ : ∃ y_ : List (S67), y_ = (x296000_1.set (t314 : Int).toNat (⟨t335, (rd_T67 x296000_1 t314).f1, (rd_T67 x296000_1 t314).f2⟩ : S67)) := ⟨_, rfl⟩
     replace H : (some (y338, t336, t337)) = some (r1, r2, r3) := by first | (rw [hy338]; with_reducible exact H) | (have H2_ := (Option.bind_some _ _).symm.trans H; rw [hy338]; with_reducible exact H2_) | (have H2_ := (Option.bind_some _ _).symm.trans H; with_reducible exact H2_) | with_reducible exact H | (rw [hy338]; exact H) | exact H
     have Ny338 := AM hy338
     clear hy338
     simp only [Option.some.injEq, Prod.mk.injEq] at H
     obtain ⟨rfl, rfl, rfl⟩ := H
     try go_wp2_with (first | ((with_reducible refine gc 71 rfl ?_); refine gl 11 Try.func71 #[.pointer (some ⟨g, 0, none⟩), .int .i64 6] ?_; (with_reducible refine (spec_l01Below.calls g s0_0 x1001_1 x1002_1 6 t296 t297 t298 w0 _ ?side1 ?side2 A7.out).mono ?_); (case side1 => exact sI); (case side2 => exact hI); rintro e w79 ⟨rfl, hi, hb, hk⟩; refine ⟨_, rfl, ?_⟩; replace HO_296000 := AM (Kd.R_mono (Kd.R_keep (IsS97.apart (show IsS97 w0 _ g s0_0 x1001_1 x1002_1 from sI) (by exact HO_296000.out) (by decide)) hk (fun _ h => h.2)) (fun _ h => h.1)); replace BK294 := AM (KeepBut.blk hk (g' := gb294) (o := .cells #[.slice none 0 0] 30 (0, 0)) (bk BK294) NB294_0.out (by simp)); replace BK295 := AM (KeepBut.blk hk (g' := gb295) (o := .cells #[u296000] 30 (0, 0)) (bk BK295) NB295_0.out (by simp)); replace HK := AM (KeepBut.trans (kI) hk (.inl rfl)); replace HB := AM (hb); replace HI0 := AM (hi); (try clear hb); (try clear hk); (try clear hi); have hnb80 := NB295_294.out; have hnc80 := NB294_295.out; have hnb81 := NB295_0.out; have hnc81 := NB0_295.out; have hcz82_0 := bv BK295 0 (u296000); have hfz82_0 := bz BK295 0; obtain ⟨Ao83, co83, eo83⟩ := Kd.R_slice HO_296000.out; subst eo83) | ((with_reducible refine gc 71 rfl ?_); refine gl 39 Try.func71 #[.pointer (some ⟨g, 0, none⟩), .int .i64 (x296000_1.length : Int)] ?_; (with_reducible refine (spec_l01Below.calls g s0_0 t297 t298 (x296000_1.length : Int) t314 t315 t316 w0 _ ?side1 ?side2 A32.out).mono ?_); (case side1 => exact sI); (case side2 => exact hI); rintro e w84 ⟨rfl, hi, hb, hk⟩; refine ⟨_, rfl, ?_⟩; replace HO_296000 := AM (Kd.R_mono (Kd.R_keep (IsS97.apart (show IsS97 w0 _ g s0_0 t297 t298 from sI) (by exact HO_296000.out) (by decide)) hk (fun _ h => h.2)) (fun _ h => h.1)); replace BK294 := AM (KeepBut.blk hk (g' := gb294) (o := .cells #[.slice none 0 0] 30 (0, 0)) (bk BK294) NB294_0.out (by simp)); replace BK295 := AM (KeepBut.blk hk (g' := gb295) (o := .cells #[.slice Ao83 x296000_1.length co83] 30 (0, 0)) (bk BK295) NB295_0.out (by simp)); replace HK := AM (KeepBut.trans (kI) hk (.inl rfl)); replace HB := AM (hb); replace HI0 := AM (hi); (try clear hb); (try clear hk); (try clear hi)) | ((with_reducible refine gc 71 rfl ?_); refine gl 41 Try.func71 #[.pointer (some ⟨g, 0, none⟩), .int .i64 40] ?_; (with_reducible refine (spec_l01Below.calls g s0_0 t315 t316 40 t317 t318 t319 w0 _ ?side1 ?side2 A33.out).mono ?_); (case side1 => exact sI); (case side2 => exact hI); rintro e w85 ⟨rfl, hi, hb, hk⟩; refine ⟨_, rfl, ?_⟩; replace HO_296000 := AM (Kd.R_mono (Kd.R_keep (IsS97.apart (show IsS97 w0 _ g s0_0 t315 t316 from sI) (by exact HO_296000.out) (by decide)) hk (fun _ h => h.2)) (fun _ h => h.1)); replace BK294 := AM (KeepBut.blk hk (g' := gb294) (o := .cells #[.slice none 0 0] 30 (0, 0)) (bk BK294) NB294_0.out (by simp)); replace BK295 := AM (KeepBut.blk hk (g' := gb295) (o := .cells #[.slice Ao83 x296000_1.length co83] 30 (0, 0)) (bk BK295) NB295_0.out (by simp)); replace HK := AM (KeepBut.trans (kI) hk (.inl rfl)); replace HB := AM (hb); replace HI0 := AM (hi); (try clear hb); (try clear hb2); (try clear hk); (try clear hi)))
     replace HO_296000 := AM (Kd.R_drew HO_296000.out)
     replace BK294 := AM (blk_drew BK294.out)
     replace BK295 := AM (blk_drew BK295.out)
     replace HI0 := AM (IsS97.drew HI0.out)
     replace HK := AM (keep_drew HK.out)
     replace HB := AM (below_drew1 HB.out)
     refine sr 9 (fun w' => w'.cell? ⟨gb295, 0, none⟩ = some (.slice Ao83 x296000_1.length co83)) [8] (bc BK295 0) (fun hHeld => ?_); refine with_tabW spec_l03Disk.tab16 spec_l03Disk.bits16 (fun HT_ HW_ => ?_)
     generalize w85.drew = w86 at HO_296000 BK294 BK295 HI0 HK HB hHeld ⊢
     refine pt 0 74 ?_; refine pt 2 76 ?_; refine pt 3 77 ?_; refine tt 1 75 ?_
     refine ot 4 (some 78) fun K hK => ?_
     refine Kd.R_lit_step Kd.string _ 9 ?hg (N := 78) ?hd (xs := ([(⟨#[]⟩ : ByteArray), (⟨#[49, 50, 51, 52, 53, 54, 55, 56]⟩ : ByteArray), (⟨#[49, 50, 51, 52, 53, 54, 55, 56, 57]⟩ : ByteArray)] : List ByteArray)) (inner := [.string (⟨#[]⟩ : ByteArray), .string (⟨#[49, 50, 51, 52, 53, 54, 55, 56]⟩ : ByteArray), .string (⟨#[49, 50, 51, 52, 53, 54, 55, 56, 57]⟩ : ByteArray)]) (ok := fun _ => True) (okp := fun _ => True) ?hr ?hp (fun _ hk => hk) trivial (Below.refl _ _) (Nat.le_refl _) (by simp) ?_; (case hd => rfl); (case hg => rfl); (case hr => first | (go_simp; done) | (go_simp; rfl)); (case hp => exact (Reps.one (show Kd.M Kd.string _ _ _ (⟨#[]⟩ : ByteArray) [.string (⟨#[]⟩ : ByteArray)] from rfl) (Reps.one (show Kd.M Kd.string _ _ _ (⟨#[49, 50, 51, 52, 53, 54, 55, 56]⟩ : ByteArray) [.string (⟨#[49, 50, 51, 52, 53, 54, 55, 56]⟩ : ByteArray)] from rfl) (Reps.one (show Kd.M Kd.string _ _ _ (⟨#[49, 50, 51, 52, 53, 54, 55, 56, 57]⟩ : ByteArray) [.string (⟨#[49, 50, 51, 52, 53, 54, 55, 56, 57]⟩ : ByteArray)] from rfl) (Reps.none _ _)))))
     intro v333 w87 ho88 hb hg_ hnew_
     clear hg_ hnew_
     (first | rw [← Ny332.out] at ho88 | (simp only [Int.reduceToNat] at ho88; rw [← Ny332.out] at ho88))
     replace HO_296000 := AM (Kd.R_below (by exact HO_296000.out) hb)
     have HO334 := AM (Kd.R_lower ho88 (keep_size (w := w) (g := g) (row := none) (kI)))
     replace BK294 := bw BK294 hb
     replace BK295 := bw BK295 hb
     replace HK := AM (KeepBut.trans (kI) (KeepBut.of_below hb g none) (.inl rfl))
     replace HB := AM (below_step (hI) hb)
     replace HI0 := AM (IsS97.below (sI) hb)
     clear hb ho88
     obtain ⟨Ao89, co89, eo89⟩ := Kd.R_slice HO334.out
     (first | subst eo89 | (injection eo89 with f1_ f2_ f3_; have f4_ := f1_.symm; have f5_ := f3_.symm; clear f1_ f2_ f3_; subst f4_; subst f5_))
     refine hK.out _ _ (bc BK295 0) (fun hHeld => ?_)
     clear hK K
     refine nr ?_
     refine ot 5 (some 79) fun K hK => ?_
     refine goes_ Try.func75 (by kernel_rfl) rfl #[.pointer (some ⟨g, 0, none⟩), .slice Ao89 y332.length co89] (by rfl) rfl rfl am ?_
     with_reducible refine (spec_l01Pick.calls g s0_0 t318 t319 _ _ y332 t335 t336 t337 w0 _ ?side1 ?side2 ?side3 ?side4 ?side5 A75.out).mono ?_
     (case side1 => exact sI)
     (case side2 => exact hI)
     (case side3 => repeat (first | exact (Kd.R_reads' HO334.out).2.2 | (with_reducible first | refine cA ?_ _ | refine cN ?_ _ | refine cD ?_)))
     (case side4 => exact (Kd.R_reads' HO334.out).2.1)
     (case side5 => exact far_slice (IsS97.own_ne HI0.out HO334.out (by decide)))
     rintro e w90 ⟨rfl, hi, hb, hk⟩
     refine ⟨_, rfl, ?_⟩
     replace HO_296000 := AM (Kd.R_mono (Kd.R_keep (IsS97.apart (show IsS97 w0 _ g s0_0 t318 t319 from sI) (by exact HO_296000.out) (by decide)) hk (fun _ h => h.2)) (fun _ h => h.1))
     replace BK294 := AM (KeepBut.blk hk (g' := gb294) (o := .cells #[.slice none 0 0] 30 (0, 0)) (bk BK294) NB294_0.out (by simp))
     replace BK295 := AM (KeepBut.blk hk (g' := gb295) (o := .cells #[.slice Ao83 x296000_1.length co83] 30 (0, 0)) (bk BK295) NB295_0.out (by simp))
     replace HO334 := AM (Kd.R_mono (Kd.R_keep (IsS97.apart (show IsS97 w0 _ g s0_0 t318 t319 from sI) (by exact HO334.out) (by decide)) hk (fun _ h => h.2)) (fun _ h => h.1))
     replace HK := AM (KeepBut.trans (kI) hk (.inl rfl))
     replace HB := AM (hb)
     replace HI0 := AM (hi)
     (try clear hb)
     (try clear hb2)
     (try clear hk)
     (try clear hi)
     have p78 : 0 ≤ (t314 : Int) := od
     have q78 : (t314 : Int) < ((x296000_1.length : Int) : Int) := od
     obtain ⟨go78, co78, eo78, gb78, gl78, cl78, HG78⟩ := Kd.R_form HO_296000.out (by omega)
     (first | cases eo78 | (injection eo78 with ea_ en_ ec_; (first | subst ea_ | (injection ea_ with ea_; subst ea_)); subst ec_; clear en_))
     have GB78 := AM gb78
     have GG78 := AM HG78
     clear gb78 gl78 HG78
     obtain ⟨ce78, hcl78, hM78, hcc78, hfr78⟩ := Kd.R_elem HO_296000.out z67 (t314 : Int) p78 q78
     obtain rfl := k67_openM hM78
     have hx78_0 : World.cell? _ ⟨go78, (t314 : Int).toNat * 3, none⟩ = some (.string ((rd_T67 x296000_1 t314).f0)) := hcc78 0 _ rfl
     have hx78_1 : World.cell? _ ⟨go78, (t314 : Int).toNat * 3 + 1, none⟩ = some (.string ((rd_T67 x296000_1 t314).f1)) := hcc78 1 _ rfl
     have hx78_2 : World.cell? _ ⟨go78, (t314 : Int).toNat * 3 + 2, none⟩ = some (.int .i64 ((rd_T67 x296000_1 t314).f2)) := hcc78 2 _ rfl
     have hf78_0 : World.frozen? _ ⟨go78, (t314 : Int).toNat * 3, none⟩ = false := hfr78 0
     have hf78_1 : World.frozen? _ ⟨go78, (t314 : Int).toNat * 3 + 1, none⟩ = false := hfr78 1
     have hf78_2 : World.frozen? _ ⟨go78, (t314 : Int).toNat * 3 + 2, none⟩ = false := hfr78 2
     (try clear hM78); clear hcl78 hcc78 hfr78
     replace p78 := eq_true p78
     replace q78 := eq_true q78
     have HN0_go78 := AM (show g ≠ go78 from by have h_ := IsS97.own_ne HI0.out HO_296000.out (by decide); intro e_; exact h_ (by rw [e_]; rfl))
     obtain ⟨ce91, hcl91, hM91, hcc91, hfr91⟩ := Kd.R_elem HO_296000.out z67 (t314 : Int) (od) (by have h_ : (t314 : Int) < ((x296000_1.length : Int) : Int) := od; first | exact h_ | (have e_ := (Kd.R_reads' HO_296000.out).1; omega) | simpa using h_)
     obtain rfl := k67_openM hM91
     have HP91 := (Kd.R_seg HO_296000.out (t314 : Int) (od) (by have h_ : (t314 : Int) < ((x296000_1.length : Int) : Int) := od; first | exact h_ | (have e_ := (Kd.R_reads' HO_296000.out).1; omega) | simpa using h_) (seg := [.string t335]) (j := 0) hcl91 hcc91 (show 1 ≤ 3 from by decide) (x' := (⟨t335, (rd_T67 x296000_1 t314).f1, (rd_T67 x296000_1 t314).f2⟩ : S67)) (k67_mkM _ _ _ (⟨t335, (rd_T67 x296000_1 t314).f1, (rd_T67 x296000_1 t314).f2⟩ : S67) ) (fun _ hk => hk)).1
     rw [← Ny338.out] at HP91
     have HQ91 := AM HP91
     (try clear hM91); clear hcl91 hcc91 hfr91 HP91
     refine hK.out _ _ (bc BK295 0) (fun hHeld => ?_)
     clear hK K
     refine nr ?_
     refine pt 6 80 ?_; refine pt 7 81 ?_
     refine zt 8 none fun K hK => ?_
     refine sk ?_
     refine hK.out _ _ ?_
     clear hK K
     refine dn ?_
     have n0_ : Aside0 (Kd.R k67 67 (w90.setCell ⟨go78, (t314 : Int).toNat * 3, none⟩ (.string t335)) w.heap.size (fun _ => True) (.slice (some ⟨go78, 0, none⟩) x296000_1.length co83) y338) := ⟨by exact HQ91.out⟩
     have n1_ : Aside0 (Kd.R Kd.string 9 (w90.setCell ⟨go78, (t314 : Int).toNat * 3, none⟩ (.string t335)) w.heap.size (fun _ => True) (.slice Ao89 y332.length co89) y332) := ⟨by exact Kd.R_mono (Kd.R_far (p := ⟨go78, (t314 : Int).toNat * 3, none⟩) (Kd.R_types HO334.out GG78.out (by decide)) (fun _ hk => hk.2) (.string t335)) (fun _ hk => trivial)⟩
     have n2_ : Aside0 ((w90.setCell ⟨go78, (t314 : Int).toNat * 3, none⟩ (.string t335)).heap[gb294]? = some (.cells #[.slice none 0 0] 30 (0, 0))) := ⟨by (with_reducible repeat first | apply aN | apply aD | apply aA); refine blk_far ?_ (by have h_ := Kd.R_ne HO_296000.out BK294.out (by decide); intro e_; exact h_ (by rw [e_]; rfl)) _; exact bk BK294⟩
     have n3_ : Aside0 ((w90.setCell ⟨go78, (t314 : Int).toNat * 3, none⟩ (.string t335)).heap[gb295]? = some (.cells #[.slice (some ⟨go78, 0, none⟩) x296000_1.length co83] 30 (0, 0))) := ⟨by (with_reducible repeat first | apply aN | apply aD | apply aA); refine blk_far ?_ (by have h_ := Kd.R_ne HO_296000.out BK295.out (by decide); intro e_; exact h_ (by rw [e_]; rfl)) _; exact bk BK295⟩
     have n4_ : Aside0 (IsS97 w0 (w90.setCell ⟨go78, (t314 : Int).toNat * 3, none⟩ (.string t335)) g s0_0 t336 t337) := ⟨sI⟩
     have n5_ : Aside0 (KeepBut w (w90.setCell ⟨go78, (t314 : Int).toNat * 3, none⟩ (.string t335)) g none) := ⟨kI⟩
     have n6_ : Aside0 (Below w0.heap.size w0 (w90.setCell ⟨go78, (t314 : Int).toNat * 3, none⟩ (.string t335))) := ⟨by repeat (first | (with_reducible first | exact HB.out | apply bA | apply bN | apply bD | refine below_set ?_ (Nat.le_trans HL.out GB78.out) | refine below_set ?_ (IsS97.ge HI0.out) | refine below_set ?_ GE294.out | refine below_set ?_ GE295.out) | exact HB.out)⟩
     (try clear HO_296000)
     (try clear HO334)
     (try clear BK294)
     (try clear BK295)
     (try clear HI0)
     (try clear HK)
     (try clear HB)
     generalize (w90.setCell ⟨go78, (t314 : Int).toNat * 3, none⟩ (.string t335)) = w92 at n0_ n1_ n2_ n3_ n4_ n5_ n6_ ⊢
     have HO_296000 := n0_
     have HO334 := n1_
     have BK294 := n2_
     have BK295 := n3_
     have HI0 := n4_
     have HK := n5_
     have HB := n6_
     clear n0_ n1_ n2_ n3_ n4_ n5_ n6_
     have hcz93_0 := bv BK295 0 (.slice (some ⟨go78, 0, none⟩) x296000_1.length co83)
     have hfz93_0 := bz BK295 0
     have hnb94 := NB294_0.out
     have hnc94 := NB0_294.out
     have hcz95_0 := bv BK294 0 (.slice none 0 0)
     have hfz95_0 := bz BK294 0
     try go_wp2
     refine bodyPost_ret (results_cell_row rfl _ _ gb294 30 #[.slice (some ⟨go78, 0, none⟩) x296000_1.length co83] (0, 0) _ rfl (bp #[.slice none 0 0] 0) Try.underlying30 rfl (by kernel_rfl)) rfl ?_
     exact ⟨_, er, by exact Kd.R_mono (Kd.R_far (p := ⟨gb294, 0, none⟩) (Kd.R_types HO_296000.out BK294.out (by decide)) (fun _ hk => hk.2) (.slice (some ⟨go78, 0, none⟩) x296000_1.length co83)) (fun _ hk => trivial), sI, hI, kI⟩
    rw [if_neg c77] at H
    exact absurd H (by simp)
   rw [if_neg c76] at H
   exact absurd H (by simp)
  rw [if_neg c74] at H
  have c74b0 : (t317 == 2) = false := beq_eq_false_iff_ne.mpr c74
  have c74b1 : (t317 != 2) = true := bne_iff_ne.mpr c74
  by_cases c96 : t317 = 3
  ·rw [if_pos c96] at H
   have c96b0 : (t317 == 3) = true := beq_iff_eq.mpr c96
   have c96b1 : (t317 != 3) = false := bne_eq_false_iff_eq.mpr c96
   clear c96
   obtain ⟨y339, hy339⟩ : ∃ y_ : List (S67), y_ = (([] : List (S67))) := ⟨_, rfl⟩
   replace H : (spec_l03Disk.l1 k1 0 s0_0 t318 t319 y339) = some (r1, r2, r3) := by first | (rw [hy339]; with_reducible exact H) | (have H2_ := (Option.bind_some _ _).symm.trans H; rw [hy339]; with_reducible exact H2_) | (have H2_ := (Option.bind_some _ _).symm.trans H; with_reducible exact H2_) | with_reducible exact H | (rw [hy339]; exact H) | exact H
   have Ny339 := AM hy339
   clear hy339
   have H' := AM H
   clear H
   go_wp2_with (first | ((with_reducible refine gc 71 rfl ?_); refine gl 11 Try.func71 #[.pointer (some ⟨g, 0, none⟩), .int .i64 6] ?_; (with_reducible refine (spec_l01Below.calls g s0_0 x1001_1 x1002_1 6 t296 t297 t298 w0 _ ?side1 ?side2 A7.out).mono ?_); (case side1 => exact sI); (case side2 => exact hI); rintro e w97 ⟨rfl, hi, hb, hk⟩; refine ⟨_, rfl, ?_⟩; replace HO_296000 := AM (Kd.R_mono (Kd.R_keep (IsS97.apart (show IsS97 w0 _ g s0_0 x1001_1 x1002_1 from sI) (by exact HO_296000.out) (by decide)) hk (fun _ h => h.2)) (fun _ h => h.1)); replace BK294 := AM (KeepBut.blk hk (g' := gb294) (o := .cells #[.slice none 0 0] 30 (0, 0)) (bk BK294) NB294_0.out (by simp)); replace BK295 := AM (KeepBut.blk hk (g' := gb295) (o := .cells #[u296000] 30 (0, 0)) (bk BK295) NB295_0.out (by simp)); replace HK := AM (KeepBut.trans (kI) hk (.inl rfl)); replace HB := AM (hb); replace HI0 := AM (hi); (try clear hb); (try clear hk); (try clear hi); have hnb98 := NB295_294.out; have hnc98 := NB294_295.out; have hnb99 := NB295_0.out; have hnc99 := NB0_295.out; have hcz100_0 := bv BK295 0 (u296000); have hfz100_0 := bz BK295 0; obtain ⟨Ao101, co101, eo101⟩ := Kd.R_slice HO_296000.out; subst eo101) | ((with_reducible refine gc 71 rfl ?_); refine gl 39 Try.func71 #[.pointer (some ⟨g, 0, none⟩), .int .i64 (x296000_1.length : Int)] ?_; (with_reducible refine (spec_l01Below.calls g s0_0 t297 t298 (x296000_1.length : Int) t314 t315 t316 w0 _ ?side1 ?side2 A32.out).mono ?_); (case side1 => exact sI); (case side2 => exact hI); rintro e w102 ⟨rfl, hi, hb, hk⟩; refine ⟨_, rfl, ?_⟩; replace HO_296000 := AM (Kd.R_mono (Kd.R_keep (IsS97.apart (show IsS97 w0 _ g s0_0 t297 t298 from sI) (by exact HO_296000.out) (by decide)) hk (fun _ h => h.2)) (fun _ h => h.1)); replace BK294 := AM (KeepBut.blk hk (g' := gb294) (o := .cells #[.slice none 0 0] 30 (0, 0)) (bk BK294) NB294_0.out (by simp)); replace BK295 := AM (KeepBut.blk hk (g' := gb295) (o := .cells #[.slice Ao101 x296000_1.length co101] 30 (0, 0)) (bk BK295) NB295_0.out (by simp)); replace HK := AM (KeepBut.trans (kI) hk (.inl rfl)); replace HB := AM (hb); replace HI0 := AM (hi); (try clear hb); (try clear hk); (try clear hi)) | ((with_reducible refine gc 71 rfl ?_); refine gl 41 Try.func71 #[.pointer (some ⟨g, 0, none⟩), .int .i64 40] ?_; (with_reducible refine (spec_l01Below.calls g s0_0 t315 t316 40 t317 t318 t319 w0 _ ?side1 ?side2 A33.out).mono ?_); (case side1 => exact sI); (case side2 => exact hI); rintro e w103 ⟨rfl, hi, hb, hk⟩; refine ⟨_, rfl, ?_⟩; replace HO_296000 := AM (Kd.R_mono (Kd.R_keep (IsS97.apart (show IsS97 w0 _ g s0_0 t315 t316 from sI) (by exact HO_296000.out) (by decide)) hk (fun _ h => h.2)) (fun _ h => h.1)); replace BK294 := AM (KeepBut.blk hk (g' := gb294) (o := .cells #[.slice none 0 0] 30 (0, 0)) (bk BK294) NB294_0.out (by simp)); replace BK295 := AM (KeepBut.blk hk (g' := gb295) (o := .cells #[.slice Ao101 x296000_1.length co101] 30 (0, 0)) (bk BK295) NB295_0.out (by simp)); replace HK := AM (KeepBut.trans (kI) hk (.inl rfl)); replace HB := AM (hb); replace HI0 := AM (hi); (try clear hb); (try clear hk); (try clear hi)) | ((with_reducible refine gd 84 rfl ?_); refine Kd.R_lit k67 _ 67 ?hg (N := 84) ?hd (xs := ([] : List (S67))) (inner := []) (ok := fun _ => True) (okp := fun _ => True) ?hr ?hp (fun _ hk => hk) trivial (Below.refl _ _) (Nat.le_refl _) (by simp) ?_; (case hd => rfl); (case hg => rfl); (case hr => first | (go_simp; done) | (go_simp; rfl)); (case hp => exact (Reps.none _ _)); intro v340 w104 ho105 hb hg_ hnew_; clear hg_ hnew_; (first | rw [← Ny339.out] at ho105 | (simp only [Int.reduceToNat] at ho105; rw [← Ny339.out] at ho105)); have HO341 := AM (Kd.R_lower (Kd.R_new' ho105 (Kd.R_lt (by exact HO_296000.out))) (keep_size (w := w) (g := g) (row := none) (kI))); replace HO_296000 := AM (Kd.R_elder' (by exact HO_296000.out) (Kd.R_base ho105) hb); replace BK294 := bw BK294 hb; replace BK295 := bw BK295 hb; replace HK := AM (KeepBut.trans (kI) (KeepBut.of_below hb g none) (.inl rfl)); replace HB := AM (below_step (hI) hb); replace HI0 := AM (IsS97.below (sI) hb); clear hb ho105; obtain ⟨Ao106, co106, eo106⟩ := Kd.R_slice HO341.out; subst eo106; have hcz107_0 := bv BK295 0 (.slice Ao101 x296000_1.length co101); have hfz107_0 := bz BK295 0))
   go_loopg [7] k1 (fun kq v7 w' => ∃ (x7_2 : Int) (x1001_2 : Int) (x1002_2 : Int) (x296000_2 : List (S67)) (u296000 : Value), v7 = .int .i64 x7_2 ∧ Aside0 (spec_l03Disk.l1 kq x7_2 s0_0 x1001_2 x1002_2 x296000_2 = some (r1, r2, r3)) ∧ Aside0 (kq ≤ k1) ∧ Aside0 (Kd.R k67 67 w' w.heap.size (fun _ => True) u296000 x296000_2) ∧ Aside0 (w'.heap[gb294]? = some (.cells #[(.slice none 0 0)] 30 (0, 0))) ∧ Aside0 (w'.heap[gb295]? = some (.cells #[u296000] 30 (0, 0))) ∧ Aside0 (IsS97 w0 w' g s0_0 x1001_2 x1002_2) ∧ Aside0 (KeepBut w w' g none) ∧ Aside0 (Below w0.heap.size w0 w'))
   case atStart => exact ⟨(0), (t318), (t319), (y339), (.slice Ao106 y339.length co106), sf, H', ⟨Nat.le_refl _⟩, ⟨by exact Kd.R_mono (Kd.R_far (p := ⟨gb295, 0, none⟩) (Kd.R_types HO341.out BK295.out (by decide)) (fun _ hk => hk.2) (.slice Ao106 y339.length co106)) (fun _ hk => trivial)⟩, ⟨be⟩, ⟨bp #[.slice Ao101 x296000_1.length co101] 0⟩, ⟨sI⟩, ⟨kI⟩, ⟨hI⟩⟩
   clear H'
   obtain ⟨x7_2, x1001_2, x1002_2, x296000_2, u296000, rfl, HA, HK2, HO_296000, BK294, BK295, HI0, HK, HB⟩ := hrel
   cases gk with
   | zero => exact absurd HA.out (by simp [spec_l03Disk.l1])
   | succ k2 =>
    have H := HA.out
    clear HA
    simp only [spec_l03Disk.l1] at H
    replace H := bm H
    obtain ⟨⟨t342, t343, t344⟩, A1080, H⟩ := H
    replace H : (if x7_2 < (wrap64 (30 + t342)) then ((spec_Decimal.f k2 (wrap64 (100 + x7_2))).bind fun t345 => (if 1 + t345.size ≤ 9223372036854775807 then (if x296000_2.length < 3518437208883 then (spec_l03Disk.l1 k2 (wrap64 (x7_2 + 1)) s0_0 t343 t344 (x296000_2 ++ [(⟨(⟨#[102]⟩ : ByteArray) ++ t345, (⟨#[]⟩ : ByteArray), 0⟩ : S67)])) else (none)) else (none))) else (some (x296000_2, t343, t344))) = some (r1, r2, r3) := H
    have A108 := AM A1080
    clear A1080
    by_cases c109 : x7_2 < (wrap64 (30 + t342))
    ·rw [if_pos c109] at H
     have c109b0 : decide (x7_2 < (wrap64 (30 + t342))) = true := decide_eq_true c109
     clear c109
     replace H := bm H
     obtain ⟨t345, A1100, H⟩ := H
     replace H : (if 1 + t345.size ≤ 9223372036854775807 then (if x296000_2.length < 3518437208883 then (spec_l03Disk.l1 k2 (wrap64 (x7_2 + 1)) s0_0 t343 t344 (x296000_2 ++ [(⟨(⟨#[102]⟩ : ByteArray) ++ t345, (⟨#[]⟩ : ByteArray), 0⟩ : S67)])) else (none)) else (none)) = some (r1, r2, r3) := H
     have A110 := AM A1100
     clear A1100
     by_cases c111 : 1 + t345.size ≤ 9223372036854775807
     ·rw [if_pos c111] at H
      have c111b0 := eq_true c111
      have c111b1 : decide (1 + t345.size ≤ 9223372036854775807) = true := decide_eq_true c111
      try have c111b2 : (9223372036854775807 < 1 + t345.size) = False := eq_false (Nat.not_lt.2 c111)
      by_cases c112 : x296000_2.length < 3518437208883
      ·rw [if_pos c112] at H
       have LMc112 := AM c112
       clear c112
       obtain ⟨y346, hy346⟩ : ∃ y_ : List (S67), y_ = (x296000_2 ++ [(⟨(⟨#[102]⟩ : ByteArray) ++ t345, (⟨#[]⟩ : ByteArray), 0⟩ : S67)]) := ⟨_, rfl⟩
       replace H : (spec_l03Disk.l1 k2 (wrap64 (x7_2 + 1)) s0_0 t343 t344 y346) = some (r1, r2, r3) := by first | (rw [hy346]; with_reducible exact H) | (have H2_ := (Option.bind_some _ _).symm.trans H; rw [hy346]; with_reducible exact H2_) | (have H2_ := (Option.bind_some _ _).symm.trans H; with_reducible exact H2_) | with_reducible exact H | (rw [hy346]; exact H) | exact H
       have Ny346 := AM hy346
       clear hy346
       have H' := AM H
       clear H
       try go_wp2_with (first | ((with_reducible refine gc 71 rfl ?_); refine gl 88 Try.func71 #[.pointer (some ⟨g, 0, none⟩), .int .i64 2] ?_; (with_reducible refine (spec_l01Below.calls g s0_0 x1001_2 x1002_2 2 t342 t343 t344 w0 _ ?side1 ?side2 A108.out).mono ?_); (case side1 => exact sI); (case side2 => exact hI); rintro e w113 ⟨rfl, hi, hb, hk⟩; refine ⟨_, rfl, ?_⟩; replace HO_296000 := AM (Kd.R_mono (Kd.R_keep (IsS97.apart (show IsS97 w0 _ g s0_0 x1001_2 x1002_2 from sI) (by exact HO_296000.out) (by decide)) hk (fun _ h => h.2)) (fun _ h => h.1)); replace BK294 := AM (KeepBut.blk hk (g' := gb294) (o := .cells #[.slice none 0 0] 30 (0, 0)) (bk BK294) NB294_0.out (by simp)); replace BK295 := AM (KeepBut.blk hk (g' := gb295) (o := .cells #[u296000] 30 (0, 0)) (bk BK295) NB295_0.out (by simp)); replace HK := AM (KeepBut.trans (kI) hk (.inl rfl)); replace HB := AM (hb); replace HI0 := AM (hi); (try clear hb); (try clear hb2); (try clear hk); (try clear hi)))
       replace HO_296000 := AM (Kd.R_drew HO_296000.out)
       replace BK294 := AM (blk_drew BK294.out)
       replace BK295 := AM (blk_drew BK295.out)
       replace HI0 := AM (IsS97.drew HI0.out)
       replace HK := AM (keep_drew HK.out)
       replace HB := AM (below_drew1 HB.out)
       refine sr 11 (fun w' => w'.cell? ⟨gb295, 0, none⟩ = some (u296000)) [10] (bc BK295 0) (fun hHeld => ?_); refine with_tabW spec_l03Disk.tab22 spec_l03Disk.bits22 (fun HT_ HW_ => ?_)
       generalize w113.drew = w114 at HO_296000 BK294 BK295 HI0 HK HB hHeld ⊢
       refine pt 0 93 ?_; refine pt 2 95 ?_; refine pt 3 96 ?_; refine tt 1 94 ?_
       refine ot 4 (some 97) fun K hK => ?_
       refine goes_ Try.func76 (by kernel_rfl) rfl #[.int .i64 (wrap64 (100 + x7_2))] (by rfl) rfl rfl am ?_
       with_reducible refine (spec_Decimal.calls k2 (wrap64 (100 + x7_2)) t345 _ A110.out).mono ?_
       rintro e w115 ⟨rfl, hb⟩
       refine ⟨_, rfl, ?_⟩
       replace HO_296000 := AM (Kd.R_below (by exact HO_296000.out) hb)
       replace BK294 := bw BK294 hb
       replace BK295 := bw BK295 hb
       replace HK := AM (KeepBut.trans (kI) (KeepBut.of_below hb g none) (.inl rfl))
       replace HB := AM (below_step (hI) hb)
       replace HI0 := AM (IsS97.below (sI) hb)
       (try clear hb)
       (try clear hb2)
       (try clear hk)
       (try clear hi)
       refine hK.out _ _ (bc BK295 0) (fun hHeld => ?_)
       clear hK K
       refine nr ?_
       refine pt 5 98 ?_; refine pt 6 99 ?_
       refine ot 7 (some 100) fun K hK => ?_
       refine vl ?_
       refine hK.out _ _ ((blk_cell (blk_alloc BK295.out _) 0).trans rfl) (fun hHeld => ?_)
       clear hK K
       refine nr ?_
       refine ot 8 (some 101) fun K hK => ?_
       refine Kd.R_append_step k67 w.heap.size (by rfl) (.tmp 94) (.tmp 100) 28 67 (.agg #[(.string ⟨#[]⟩), (.string ⟨#[]⟩), (.int .i64 0)]) 40 rfl Try.underlying28 info67 rfl (by decide) (by omega) u296000 x296000_2 (⟨(⟨#[102]⟩ : ByteArray) ++ t345, (⟨#[]⟩ : ByteArray), 0⟩ : S67) [.string ((⟨#[102]⟩ : ByteArray) ++ t345), .string (⟨#[]⟩ : ByteArray), .int .i64 0] (fun _ => True) (fun _ => False) rfl rfl ?aP (fun _ hk => hk.elim) ?aF ?aO (Below.refl _ _) ?aS ?aL ?_
       (case aP => exact k67_mkM _ _ _ (⟨(⟨#[102]⟩ : ByteArray) ++ t345, (⟨#[]⟩ : ByteArray), 0⟩ : S67))
       (case aF => exact (fun _ _ => trivial))
       (case aO => exact (by exact HO_296000.out))
       (case aS => exact (keep_size (w := w) (g := g) (row := none) (kI)))
       (case aL => have := LMc112.out; omega)
       intro v347 w116 ho hb hg hat
       rw [← Ny346.out] at ho
       replace BK294 := AM (blk_grown (g := gb294) (o := .cells #[.slice none 0 0] 30 (0, 0)) (bk BK294) hg (Kd.R_ne HO_296000.out BK294.out (by decide)))
       replace BK295 := AM (blk_grown (g := gb295) (o := .cells #[u296000] 30 (0, 0)) (bk BK295) hg (Kd.R_ne HO_296000.out BK295.out (by decide)))
       replace HB := AM (below_weaken (hI) HL.out hb)
       replace HI0 := AM (IsS97.grown (sI) hg (IsS97.own_ne HI0.out HO_296000.out (by decide)))
       replace HK := AM (KeepBut.trans (kI) (KeepBut.of_grown hg g) (Kd.R_base2 HO_296000.out))
       have HO348 := AM (ho)
       clear HO_296000
       clear ho hb hg hat
       obtain ⟨Ao117, co117, eo117⟩ := Kd.R_slice HO348.out
       (first | subst eo117 | (injection eo117 with f1_ f2_ f3_; have f4_ := f1_.symm; have f5_ := f3_.symm; clear f1_ f2_ f3_; subst f4_; subst f5_))
       refine hK.out _ _ (bc BK295 0) (fun hHeld => ?_)
       clear hK K
       refine nr ?_
       refine pt 9 102 ?_
       refine zt 10 none fun K hK => ?_
       have hs118 : w116.cell? ⟨gb295, 0, none⟩ = some (u296000) := bc BK295 0
       have hfs118 := bz BK295 0
       have hns118_0 := NB294_295.out
       have hms118_0 := NB295_294.out
       refine sk ?_
       refine hK.out _ _ ?_
       clear hK K
       refine dn ?_
       try go_wp2
       go_roundg k2
       case measure => have := HK1.out; have := HK2.out; omega
       case rel => exact ⟨(wrap64 (x7_2 + 1)), (t343), (t344), (y346), (.slice Ao117 y346.length co117), sf, H', ⟨by have := HK1.out; have := HK2.out; omega⟩, ⟨by exact Kd.R_mono (Kd.R_far (p := ⟨gb295, 0, none⟩) (Kd.R_types HO348.out BK295.out (by decide)) (fun _ hk => hk.2) (.slice Ao117 y346.length co117)) (fun _ hk => trivial)⟩, ⟨be⟩, ⟨bp #[u296000] 0⟩, ⟨sI⟩, ⟨kI⟩, ⟨hI⟩⟩
      rw [if_neg c112] at H
      exact absurd H (by simp)
     rw [if_neg c111] at H
     exact absurd H (by simp)
    rw [if_neg c109] at H
    have c109b0 : decide (x7_2 < (wrap64 (30 + t342))) = false := decide_eq_false c109
    clear c109
    simp only [Option.some.injEq, Prod.mk.injEq] at H
    obtain ⟨rfl, rfl, rfl⟩ := H
    go_wp2_with (first | ((with_reducible refine gc 71 rfl ?_); refine gl 88 Try.func71 #[.pointer (some ⟨g, 0, none⟩), .int .i64 2] ?_; (with_reducible refine (spec_l01Below.calls g s0_0 x1001_2 x1002_2 2 t342 t343 t344 w0 _ ?side1 ?side2 A108.out).mono ?_); (case side1 => exact sI); (case side2 => exact hI); rintro e w119 ⟨rfl, hi, hb, hk⟩; refine ⟨_, rfl, ?_⟩; replace HO_296000 := AM (Kd.R_mono (Kd.R_keep (IsS97.apart (show IsS97 w0 _ g s0_0 x1001_2 x1002_2 from sI) (by exact HO_296000.out) (by decide)) hk (fun _ h => h.2)) (fun _ h => h.1)); replace BK294 := AM (KeepBut.blk hk (g' := gb294) (o := .cells #[.slice none 0 0] 30 (0, 0)) (bk BK294) NB294_0.out (by simp)); replace BK295 := AM (KeepBut.blk hk (g' := gb295) (o := .cells #[u296000] 30 (0, 0)) (bk BK295) NB295_0.out (by simp)); replace HK := AM (KeepBut.trans (kI) hk (.inl rfl)); replace HB := AM (hb); replace HI0 := AM (hi); (try clear hb); (try clear hk); (try clear hi); have hnb120 := NB295_294.out; have hnc120 := NB294_295.out; have hnb121 := NB295_0.out; have hnc121 := NB0_295.out; have hcz122_0 := bv BK295 0 (u296000); have hfz122_0 := bz BK295 0; obtain ⟨Ao123, co123, eo123⟩ := Kd.R_slice HO_296000.out; subst eo123; have hnb124 := NB294_0.out; have hnc124 := NB0_294.out; have hcz125_0 := bv BK294 0 (.slice none 0 0); have hfz125_0 := bz BK294 0))
    refine bodyPost_ret (results_cell_row rfl _ _ gb294 30 #[.slice Ao123 x296000_2.length co123] (0, 0) _ rfl (bp #[.slice none 0 0] 0) Try.underlying30 rfl (by kernel_rfl)) rfl ?_
    exact ⟨_, er, by exact Kd.R_mono (Kd.R_far (p := ⟨gb294, 0, none⟩) (Kd.R_types HO_296000.out BK294.out (by decide)) (fun _ hk => hk.2) (.slice Ao123 x296000_2.length co123)) (fun _ hk => trivial), sI, hI, kI⟩
  rw [if_neg c96] at H
  have c96b0 : (t317 == 3) = false := beq_eq_false_iff_ne.mpr c96
  have c96b1 : (t317 != 3) = true := bne_iff_ne.mpr c96
  by_cases c126 : t317 = 4
  ·rw [if_pos c126] at H
   have c126b0 : (t317 == 4) = true := beq_iff_eq.mpr c126
   have c126b1 : (t317 != 4) = false := bne_eq_false_iff_eq.mpr c126
   clear c126
   replace H := bm H
   obtain ⟨⟨t349, t350, t351⟩, A1270, H⟩ := H
   replace H : ((spec_l01Long.f k1 (wrap64 (19999 + t349)) 65).bind fun t352 => (if 0 ≤ t314 then (if t314 < (x296000_1.length : Int) then (some ((x296000_1.set (t314 : Int).toNat (⟨(rd_T67 x296000_1 t314).f0, t352, (rd_T67 x296000_1 t314).f2⟩ : S67)), t350, t351)) else (none)) else (none))) = some (r1, r2, r3) := H
   have A127 := AM A1270
   clear A1270
   replace H := bm H
   obtain ⟨t352, A1280, H⟩ := H
   replace H : (if 0 ≤ t314 then (if t314 < (x296000_1.length : Int) then (some ((x296000_1.set (t314 : Int).toNat (⟨(rd_T67 x296000_1 t314).f0, t352, (rd_T67 x296000_1 t314).f2⟩ : S67)), t350, t351)) else (none)) else (none)) = some (r1, r2, r3) := H
   have A128 := AM A1280
   clear A1280
   by_cases c129 : 0 ≤ t314
   ·rw [if_pos c129] at H
    have c129b0 : decide (0 ≤ t314) = true := decide_eq_true c129
    clear c129
    by_cases c130 : t314 < (x296000_1.length : Int)
    ·rw [if_pos c130] at H
     have c130b0 : decide (t314 < (x296000_1.length : Int)) = true := decide_eq_true c130
     clear c130
     obtain ⟨y353, hy353⟩ : ∃ y_ : List (S67), y_ = (x296000_1.set (t314 : Int).toNat (⟨(rd_T67 x296000_1 t314).f0, t352, (rd_T67 x296000_1 t314).f2⟩ : S67)) := ⟨_, rfl⟩
     replace H : (some (y353, t350, t351)) = some (r1, r2, r3) := by first | (rw [hy353]; with_reducible exact H) | (have H2_ := (Option.bind_some _ _).symm.trans H; rw [hy353]; with_reducible exact H2_) | (have H2_ := (Option.bind_some _ _).symm.trans H; with_reducible exact H2_) | with_reducible exact H | (rw [hy353]; exact H) | exact H
     have Ny353 := AM hy353
     clear hy353
     simp only [Option.some.injEq, Prod.mk.injEq] at H
     obtain ⟨rfl, rfl, rfl⟩ := H
     try go_wp2_with (first | ((with_reducible refine gc 71 rfl ?_); refine gl 11 Try.func71 #[.pointer (some ⟨g, 0, none⟩), .int .i64 6] ?_; (with_reducible refine (spec_l01Below.calls g s0_0 x1001_1 x1002_1 6 t296 t297 t298 w0 _ ?side1 ?side2 A7.out).mono ?_); (case side1 => exact sI); (case side2 => exact hI); rintro e w132 ⟨rfl, hi, hb, hk⟩; refine ⟨_, rfl, ?_⟩; replace HO_296000 := AM (Kd.R_mono (Kd.R_keep (IsS97.apart (show IsS97 w0 _ g s0_0 x1001_1 x1002_1 from sI) (by exact HO_296000.out) (by decide)) hk (fun _ h => h.2)) (fun _ h => h.1)); replace BK294 := AM (KeepBut.blk hk (g' := gb294) (o := .cells #[.slice none 0 0] 30 (0, 0)) (bk BK294) NB294_0.out (by simp)); replace BK295 := AM (KeepBut.blk hk (g' := gb295) (o := .cells #[u296000] 30 (0, 0)) (bk BK295) NB295_0.out (by simp)); replace HK := AM (KeepBut.trans (kI) hk (.inl rfl)); replace HB := AM (hb); replace HI0 := AM (hi); (try clear hb); (try clear hk); (try clear hi); have hnb133 := NB295_294.out; have hnc133 := NB294_295.out; have hnb134 := NB295_0.out; have hnc134 := NB0_295.out; have hcz135_0 := bv BK295 0 (u296000); have hfz135_0 := bz BK295 0; obtain ⟨Ao136, co136, eo136⟩ := Kd.R_slice HO_296000.out; subst eo136) | ((with_reducible refine gc 71 rfl ?_); refine gl 39 Try.func71 #[.pointer (some ⟨g, 0, none⟩), .int .i64 (x296000_1.length : Int)] ?_; (with_reducible refine (spec_l01Below.calls g s0_0 t297 t298 (x296000_1.length : Int) t314 t315 t316 w0 _ ?side1 ?side2 A32.out).mono ?_); (case side1 => exact sI); (case side2 => exact hI); rintro e w137 ⟨rfl, hi, hb, hk⟩; refine ⟨_, rfl, ?_⟩; replace HO_296000 := AM (Kd.R_mono (Kd.R_keep (IsS97.apart (show IsS97 w0 _ g s0_0 t297 t298 from sI) (by exact HO_296000.out) (by decide)) hk (fun _ h => h.2)) (fun _ h => h.1)); replace BK294 := AM (KeepBut.blk hk (g' := gb294) (o := .cells #[.slice none 0 0] 30 (0, 0)) (bk BK294) NB294_0.out (by simp)); replace BK295 := AM (KeepBut.blk hk (g' := gb295) (o := .cells #[.slice Ao136 x296000_1.length co136] 30 (0, 0)) (bk BK295) NB295_0.out (by simp)); replace HK := AM (KeepBut.trans (kI) hk (.inl rfl)); replace HB := AM (hb); replace HI0 := AM (hi); (try clear hb); (try clear hk); (try clear hi)) | ((with_reducible refine gc 71 rfl ?_); refine gl 41 Try.func71 #[.pointer (some ⟨g, 0, none⟩), .int .i64 40] ?_; (with_reducible refine (spec_l01Below.calls g s0_0 t315 t316 40 t317 t318 t319 w0 _ ?side1 ?side2 A33.out).mono ?_); (case side1 => exact sI); (case side2 => exact hI); rintro e w138 ⟨rfl, hi, hb, hk⟩; refine ⟨_, rfl, ?_⟩; replace HO_296000 := AM (Kd.R_mono (Kd.R_keep (IsS97.apart (show IsS97 w0 _ g s0_0 t315 t316 from sI) (by exact HO_296000.out) (by decide)) hk (fun _ h => h.2)) (fun _ h => h.1)); replace BK294 := AM (KeepBut.blk hk (g' := gb294) (o := .cells #[.slice none 0 0] 30 (0, 0)) (bk BK294) NB294_0.out (by simp)); replace BK295 := AM (KeepBut.blk hk (g' := gb295) (o := .cells #[.slice Ao136 x296000_1.length co136] 30 (0, 0)) (bk BK295) NB295_0.out (by simp)); replace HK := AM (KeepBut.trans (kI) hk (.inl rfl)); replace HB := AM (hb); replace HI0 := AM (hi); (try clear hb); (try clear hb2); (try clear hk); (try clear hi)))
     replace HO_296000 := AM (Kd.R_drew HO_296000.out)
     replace BK294 := AM (blk_drew BK294.out)
     replace BK295 := AM (blk_drew BK295.out)
     replace HI0 := AM (IsS97.drew HI0.out)
     replace HK := AM (keep_drew HK.out)
     replace HB := AM (below_drew1 HB.out)
     refine sr 10 (fun w' => w'.cell? ⟨gb295, 0, none⟩ = some (.slice Ao136 x296000_1.length co136)) [9] (bc BK295 0) (fun hHeld => ?_); refine with_tabW spec_l03Disk.tab24 spec_l03Disk.bits24 (fun HT_ HW_ => ?_)
     generalize w138.drew = w139 at HO_296000 BK294 BK295 HI0 HK HB hHeld ⊢
     refine pt 0 105 ?_; refine pt 2 107 ?_; refine pt 3 108 ?_; refine tt 1 106 ?_
     refine ot 4 (some 109) fun K hK => ?_
     refine goes_ Try.func71 (by kernel_rfl) rfl #[.pointer (some ⟨g, 0, none⟩), .int .i64 3] (by rfl) rfl rfl am ?_
     with_reducible refine (spec_l01Below.calls g s0_0 t318 t319 3 t349 t350 t351 w0 _ ?side1 ?side2 A127.out).mono ?_
     (case side1 => exact sI)
     (case side2 => exact hI)
     rintro e w140 ⟨rfl, hi, hb, hk⟩
     refine ⟨_, rfl, ?_⟩
     replace HO_296000 := AM (Kd.R_mono (Kd.R_keep (IsS97.apart (show IsS97 w0 _ g s0_0 t318 t319 from sI) (by exact HO_296000.out) (by decide)) hk (fun _ h => h.2)) (fun _ h => h.1))
     replace BK294 := AM (KeepBut.blk hk (g' := gb294) (o := .cells #[.slice none 0 0] 30 (0, 0)) (bk BK294) NB294_0.out (by simp))
     replace BK295 := AM (KeepBut.blk hk (g' := gb295) (o := .cells #[.slice Ao136 x296000_1.length co136] 30 (0, 0)) (bk BK295) NB295_0.out (by simp))
     replace HK := AM (KeepBut.trans (kI) hk (.inl rfl))
     replace HB := AM (hb)
     replace HI0 := AM (hi)
     (try clear hb)
     (try clear hb2)
     (try clear hk)
     (try clear hi)
     refine hK.out _ _ (bc BK295 0) (fun hHeld => ?_)
     clear hK K
     refine nr ?_
     refine pt 5 110 ?_
     refine ot 6 (some 111) fun K hK => ?_
     refine goes_ Try.func77 (by kernel_rfl) rfl #[.int .i64 (wrap64 (19999 + t349)), .int .u8 65] (by rfl) rfl rfl am ?_
     with_reducible refine (spec_l01Long.calls k1 (wrap64 (19999 + t349)) 65 t352 _ A128.out).mono ?_
     rintro e w141 ⟨rfl, hb⟩
     refine ⟨_, rfl, ?_⟩
     replace HO_296000 := AM (Kd.R_below (by exact HO_296000.out) hb)
     replace BK294 := bw BK294 hb
     replace BK295 := bw BK295 hb
     replace HK := AM (KeepBut.trans (kI) (KeepBut.of_below hb g none) (.inl rfl))
     replace HB := AM (below_step (hI) hb)
     replace HI0 := AM (IsS97.below (sI) hb)
     (try clear hb)
     (try clear hb2)
     (try clear hk)
     (try clear hi)
     have p131 : 0 ≤ (t314 : Int) := od
     have q131 : (t314 : Int) < ((x296000_1.length : Int) : Int) := od
     obtain ⟨go131, co131, eo131, gb131, gl131, cl131, HG131⟩ := Kd.R_form HO_296000.out (by omega)
     (first | cases eo131 | (injection eo131 with ea_ en_ ec_; (first | subst ea_ | (injection ea_ with ea_; subst ea_)); subst ec_; clear en_))
     have GB131 := AM gb131
     have GG131 := AM HG131
     clear gb131 gl131 HG131
     obtain ⟨ce131, hcl131, hM131, hcc131, hfr131⟩ := Kd.R_elem HO_296000.out z67 (t314 : Int) p131 q131
     obtain rfl := k67_openM hM131
     have hx131_0 : World.cell? _ ⟨go131, (t314 : Int).toNat * 3, none⟩ = some (.string ((rd_T67 x296000_1 t314).f0)) := hcc131 0 _ rfl
     have hx131_1 : World.cell? _ ⟨go131, (t314 : Int).toNat * 3 + 1, none⟩ = some (.string ((rd_T67 x296000_1 t314).f1)) := hcc131 1 _ rfl
     have hx131_2 : World.cell? _ ⟨go131, (t314 : Int).toNat * 3 + 2, none⟩ = some (.int .i64 ((rd_T67 x296000_1 t314).f2)) := hcc131 2 _ rfl
     have hf131_0 : World.frozen? _ ⟨go131, (t314 : Int).toNat * 3, none⟩ = false := hfr131 0
     have hf131_1 : World.frozen? _ ⟨go131, (t314 : Int).toNat * 3 + 1, none⟩ = false := hfr131 1
     have hf131_2 : World.frozen? _ ⟨go131, (t314 : Int).toNat * 3 + 2, none⟩ = false := hfr131 2
     (try clear hM131); clear hcl131 hcc131 hfr131
     replace p131 := eq_true p131
     replace q131 := eq_true q131
     have HN0_go131 := AM (show g ≠ go131 from by have h_ := IsS97.own_ne HI0.out HO_296000.out (by decide); intro e_; exact h_ (by rw [e_]; rfl))
     obtain ⟨ce142, hcl142, hM142, hcc142, hfr142⟩ := Kd.R_elem HO_296000.out z67 (t314 : Int) (od) (by have h_ : (t314 : Int) < ((x296000_1.length : Int) : Int) := od; first | exact h_ | (have e_ := (Kd.R_reads' HO_296000.out).1; omega) | simpa using h_)
     obtain rfl := k67_openM hM142
     have HP142 := (Kd.R_seg HO_296000.out (t314 : Int) (od) (by have h_ : (t314 : Int) < ((x296000_1.length : Int) : Int) := od; first | exact h_ | (have e_ := (Kd.R_reads' HO_296000.out).1; omega) | simpa using h_) (seg := [.string t352]) (j := 1) hcl142 hcc142 (show 2 ≤ 3 from by decide) (x' := (⟨(rd_T67 x296000_1 t314).f0, t352, (rd_T67 x296000_1 t314).f2⟩ : S67)) (k67_mkM _ _ _ (⟨(rd_T67 x296000_1 t314).f0, t352, (rd_T67 x296000_1 t314).f2⟩ : S67) ) (fun _ hk => hk)).1
     rw [← Ny353.out] at HP142
     have HQ142 := AM HP142
     (try clear hM142); clear hcl142 hcc142 hfr142 HP142
     refine hK.out _ _ (bc BK295 0) (fun hHeld => ?_)
     clear hK K
     refine nr ?_
     refine pt 7 112 ?_; refine pt 8 113 ?_
     refine zt 9 none fun K hK => ?_
     refine sk ?_
     refine hK.out _ _ ?_
     clear hK K
     refine dn ?_
     have n0_ : Aside0 (Kd.R k67 67 (w141.setCell ⟨go131, (t314 : Int).toNat * 3 + 1, none⟩ (.string t352)) w.heap.size (fun _ => True) (.slice (some ⟨go131, 0, none⟩) x296000_1.length co136) y353) := ⟨by exact HQ142.out⟩
     have n1_ : Aside0 ((w141.setCell ⟨go131, (t314 : Int).toNat * 3 + 1, none⟩ (.string t352)).heap[gb294]? = some (.cells #[.slice none 0 0] 30 (0, 0))) := ⟨by (with_reducible repeat first | apply aN | apply aD | apply aA); refine blk_far ?_ (by have h_ := Kd.R_ne HO_296000.out BK294.out (by decide); intro e_; exact h_ (by rw [e_]; rfl)) _; exact bk BK294⟩
     have n2_ : Aside0 ((w141.setCell ⟨go131, (t314 : Int).toNat * 3 + 1, none⟩ (.string t352)).heap[gb295]? = some (.cells #[.slice (some ⟨go131, 0, none⟩) x296000_1.length co136] 30 (0, 0))) := ⟨by (with_reducible repeat first | apply aN | apply aD | apply aA); refine blk_far ?_ (by have h_ := Kd.R_ne HO_296000.out BK295.out (by decide); intro e_; exact h_ (by rw [e_]; rfl)) _; exact bk BK295⟩
     have n3_ : Aside0 (IsS97 w0 (w141.setCell ⟨go131, (t314 : Int).toNat * 3 + 1, none⟩ (.string t352)) g s0_0 t350 t351) := ⟨sI⟩
     have n4_ : Aside0 (KeepBut w (w141.setCell ⟨go131, (t314 : Int).toNat * 3 + 1, none⟩ (.string t352)) g none) := ⟨kI⟩
     have n5_ : Aside0 (Below w0.heap.size w0 (w141.setCell ⟨go131, (t314 : Int).toNat * 3 + 1, none⟩ (.string t352))) := ⟨by repeat (first | (with_reducible first | exact HB.out | apply bA | apply bN | apply bD | refine below_set ?_ (Nat.le_trans HL.out GB131.out) | refine below_set ?_ (IsS97.ge HI0.out) | refine below_set ?_ GE294.out | refine below_set ?_ GE295.out) | exact HB.out)⟩
     (try clear HO_296000)
     (try clear BK294)
     (try clear BK295)
     (try clear HI0)
     (try clear HK)
     (try clear HB)
     generalize (w141.setCell ⟨go131, (t314 : Int).toNat * 3 + 1, none⟩ (.string t352)) = w143 at n0_ n1_ n2_ n3_ n4_ n5_ ⊢
     have HO_296000 := n0_
     have BK294 := n1_
     have BK295 := n2_
     have HI0 := n3_
     have HK := n4_
     have HB := n5_
     clear n0_ n1_ n2_ n3_ n4_ n5_
     have hcz144_0 := bv BK295 0 (.slice (some ⟨go131, 0, none⟩) x296000_1.length co136)
     have hfz144_0 := bz BK295 0
     have hnb145 := NB294_0.out
     have hnc145 := NB0_294.out
     have hcz146_0 := bv BK294 0 (.slice none 0 0)
     have hfz146_0 := bz BK294 0
     try go_wp2
     refine bodyPost_ret (results_cell_row rfl _ _ gb294 30 #[.slice (some ⟨go131, 0, none⟩) x296000_1.length co136] (0, 0) _ rfl (bp #[.slice none 0 0] 0) Try.underlying30 rfl (by kernel_rfl)) rfl ?_
     exact ⟨_, er, by exact Kd.R_mono (Kd.R_far (p := ⟨gb294, 0, none⟩) (Kd.R_types HO_296000.out BK294.out (by decide)) (fun _ hk => hk.2) (.slice (some ⟨go131, 0, none⟩) x296000_1.length co136)) (fun _ hk => trivial), sI, hI, kI⟩
    rw [if_neg c130] at H
    exact absurd H (by simp)
   rw [if_neg c129] at H
   exact absurd H (by simp)
  rw [if_neg c126] at H
  have c126b0 : (t317 == 4) = false := beq_eq_false_iff_ne.mpr c126
  have c126b1 : (t317 != 4) = true := bne_iff_ne.mpr c126
  simp only [Option.some.injEq, Prod.mk.injEq] at H
  obtain ⟨rfl, rfl, rfl⟩ := H
  go_wp2_with (first | ((with_reducible refine gc 71 rfl ?_); refine gl 11 Try.func71 #[.pointer (some ⟨g, 0, none⟩), .int .i64 6] ?_; (with_reducible refine (spec_l01Below.calls g s0_0 x1001_1 x1002_1 6 t296 t297 t298 w0 _ ?side1 ?side2 A7.out).mono ?_); (case side1 => exact sI); (case side2 => exact hI); rintro e w147 ⟨rfl, hi, hb, hk⟩; refine ⟨_, rfl, ?_⟩; replace HO_296000 := AM (Kd.R_mono (Kd.R_keep (IsS97.apart (show IsS97 w0 _ g s0_0 x1001_1 x1002_1 from sI) (by exact HO_296000.out) (by decide)) hk (fun _ h => h.2)) (fun _ h => h.1)); replace BK294 := AM (KeepBut.blk hk (g' := gb294) (o := .cells #[.slice none 0 0] 30 (0, 0)) (bk BK294) NB294_0.out (by simp)); replace BK295 := AM (KeepBut.blk hk (g' := gb295) (o := .cells #[u296000] 30 (0, 0)) (bk BK295) NB295_0.out (by simp)); replace HK := AM (KeepBut.trans (kI) hk (.inl rfl)); replace HB := AM (hb); replace HI0 := AM (hi); (try clear hb); (try clear hk); (try clear hi); have hnb148 := NB295_294.out; have hnc148 := NB294_295.out; have hnb149 := NB295_0.out; have hnc149 := NB0_295.out; have hcz150_0 := bv BK295 0 (u296000); have hfz150_0 := bz BK295 0; obtain ⟨Ao151, co151, eo151⟩ := Kd.R_slice HO_296000.out; subst eo151) | ((with_reducible refine gc 71 rfl ?_); refine gl 39 Try.func71 #[.pointer (some ⟨g, 0, none⟩), .int .i64 (x296000_1.length : Int)] ?_; (with_reducible refine (spec_l01Below.calls g s0_0 t297 t298 (x296000_1.length : Int) t314 t315 t316 w0 _ ?side1 ?side2 A32.out).mono ?_); (case side1 => exact sI); (case side2 => exact hI); rintro e w152 ⟨rfl, hi, hb, hk⟩; refine ⟨_, rfl, ?_⟩; replace HO_296000 := AM (Kd.R_mono (Kd.R_keep (IsS97.apart (show IsS97 w0 _ g s0_0 t297 t298 from sI) (by exact HO_296000.out) (by decide)) hk (fun _ h => h.2)) (fun _ h => h.1)); replace BK294 := AM (KeepBut.blk hk (g' := gb294) (o := .cells #[.slice none 0 0] 30 (0, 0)) (bk BK294) NB294_0.out (by simp)); replace BK295 := AM (KeepBut.blk hk (g' := gb295) (o := .cells #[.slice Ao151 x296000_1.length co151] 30 (0, 0)) (bk BK295) NB295_0.out (by simp)); replace HK := AM (KeepBut.trans (kI) hk (.inl rfl)); replace HB := AM (hb); replace HI0 := AM (hi); (try clear hb); (try clear hk); (try clear hi)) | ((with_reducible refine gc 71 rfl ?_); refine gl 41 Try.func71 #[.pointer (some ⟨g, 0, none⟩), .int .i64 40] ?_; (with_reducible refine (spec_l01Below.calls g s0_0 t315 t316 40 t317 t318 t319 w0 _ ?side1 ?side2 A33.out).mono ?_); (case side1 => exact sI); (case side2 => exact hI); rintro e w153 ⟨rfl, hi, hb, hk⟩; refine ⟨_, rfl, ?_⟩; replace HO_296000 := AM (Kd.R_mono (Kd.R_keep (IsS97.apart (show IsS97 w0 _ g s0_0 t315 t316 from sI) (by exact HO_296000.out) (by decide)) hk (fun _ h => h.2)) (fun _ h => h.1)); replace BK294 := AM (KeepBut.blk hk (g' := gb294) (o := .cells #[.slice none 0 0] 30 (0, 0)) (bk BK294) NB294_0.out (by simp)); replace BK295 := AM (KeepBut.blk hk (g' := gb295) (o := .cells #[.slice Ao151 x296000_1.length co151] 30 (0, 0)) (bk BK295) NB295_0.out (by simp)); replace HK := AM (KeepBut.trans (kI) hk (.inl rfl)); replace HB := AM (hb); replace HI0 := AM (hi); (try clear hb); (try clear hk); (try clear hi); have hcz154_0 := bv BK295 0 (.slice Ao151 x296000_1.length co151); have hfz154_0 := bz BK295 0; have hnb155 := NB294_0.out; have hnc155 := NB0_294.out; have hcz156_0 := bv BK294 0 (.slice none 0 0); have hfz156_0 := bz BK294 0))
  refine bodyPost_ret (results_cell_row rfl _ _ gb294 30 #[.slice Ao151 x296000_1.length co151] (0, 0) _ rfl (bp #[.slice none 0 0] 0) Try.underlying30 rfl (by kernel_rfl)) rfl ?_
  exact ⟨_, er, by exact Kd.R_mono (Kd.R_far (p := ⟨gb294, 0, none⟩) (Kd.R_types HO_296000.out BK294.out (by decide)) (fun _ hk => hk.2) (.slice Ao151 x296000_1.length co151)) (fun _ hk => trivial), sI, hI, kI⟩

end Go.Proofs.Ytnkldnkolcighaa.XFnActs
