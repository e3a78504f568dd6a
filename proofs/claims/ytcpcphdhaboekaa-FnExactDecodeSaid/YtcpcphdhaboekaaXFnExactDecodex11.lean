/- What the functions of a law compute, and that their calls compute it: written by a program of this session (xprint.py), which turns the kit print at a few places. -/
import Derived.Test.YtcpcphdhaboekaaXFnExactDecodex0
import Derived.Test.YtcpcphdhaboekaaXFnExactDecodex5
import Derived.Test.YtcpcphdhaboekaaXFnExactDecodex8
import Derived.Test.YtcpcphdhaboekaaXFnExactDecodex9
import Derived.Test.YtcpcphdhaboekaaXFnExactDecodex10
namespace Go.Proofs.Ytcpcphdhaboekaa.XFnExactDecode
open Go.RowKit Go.Proofs.YtcpcphdhaboekaaV.PrintWords Go.Proofs.YtcpcphdhaboekaaV.PrintLast Go.Proofs.YtcpcphdhaboekaaV.PrintMore
attribute [local go_sem] max2_int min2_int max_two min_two max_three min_three max_four min_four   -- for this text's walks alone
set_option linter.unusedVariables false
set_option linter.unusedSimpArgs false

/-! ### spec_InvM: function 39 -/
mutual
def spec_InvM.j0 : Nat → List (List Int) → Bool → Option ((List (List Int)) × Bool)
 | 0, _, _ => none
 | k + 1, x0, x26 => if x26 = true then (some ((([] : List (List Int))), false)) else (spec_InvM.l0 k x0 (x0.length : Int) (([] : List (List Int))) 0)
def spec_InvM.l0 : Nat → List (List Int) → Int → List (List Int) → Int → Option ((List (List Int)) × Bool)
 | 0, _, _, _, _ => none
 | k + 1, x0, x4, x5, x6 => if x6 < x4 then ((some (([] : List Int) : List Int)).bind fun y330 => (if 0 ≤ x6 then (if x6 < (x0.length : Int) then (if y330.length + (rd_L1 x0 x6).length < 17592186044416 then (if x5.length < 5864062014805 then (spec_InvM.l0 k x0 x4 (x5 ++ [(y330 ++ (rd_L1 x0 x6))]) (wrap64 (x6 + 1))) else (none)) else (none)) else (none)) else (none))) else ((spec_OneM.f k x4).bind fun t340 => (spec_InvM.l1 k x4 x5 t340 0))
def spec_InvM.l1 : Nat → Int → List (List Int) → List (List Int) → Int → Option ((List (List Int)) × Bool)
 | 0, _, _, _, _ => none
 | k + 1, x4, x5, x7, x8 => if x8 < x4 then (spec_InvM.l2 k x4 x5 x7 x8 x8) else (some (x7, true))
def spec_InvM.j4 : Nat → Int → List (List Int) → List (List Int) → Int → Int → Option ((List (List Int)) × Bool)
 | 0, _, _, _, _, _ => none
 | k + 1, x4, x5, x7, x8, x9 => if x9 = x4 then (some ((([] : List (List Int))), false)) else (if 0 ≤ x9 then (if x9 < (x5.length : Int) then (if 0 ≤ x8 then (if x8 < (x5.length : Int) then ((some ((x5.set (x9 : Int).toNat (rd_L1 x5 x8)).set (x8 : Int).toNat (rd_L1 x5 x9) : List (List Int))).bind fun y351 => (if x9 < (x7.length : Int) then (if x8 < (x7.length : Int) then ((some ((x7.set (x9 : Int).toNat (rd_L1 x7 x8)).set (x8 : Int).toNat (rd_L1 x7 x9) : List (List Int))).bind fun y355 => (if x8 < ((rd_L1 y351 x8).length : Int) then ((spec_InvG.f k (rd (rd_L1 y351 x8) x8)).bind fun t358 => ((spec_l06Times.f k (rd_L1 y351 x8) t358).bind fun t360 => ((spec_l06Times.f k (rd_L1 y355 x8) t358).bind fun t365 => (spec_InvM.l3 k x4 (y351.set (x8 : Int).toNat t360) (y355.set (x8 : Int).toNat t365) x8 0)))) else (none))) else (none)) else (none))) else (none)) else (none)) else (none)) else (none))
def spec_InvM.l3 : Nat → Int → List (List Int) → List (List Int) → Int → Int → Option ((List (List Int)) × Bool)
 | 0, _, _, _, _, _ => none
 | k + 1, x4, x5, x7, x8, x13 => if x13 < x4 then (if x13 = x8 then (spec_InvM.j6 k x4 x5 x7 x8 x13 false) else (if 0 ≤ x13 then (if x13 < (x5.length : Int) then (if 0 ≤ x8 then (if x8 < ((rd_L1 x5 x13).length : Int) then (spec_InvM.j6 k x4 x5 x7 x8 x13 ((rd (rd_L1 x5 x13) x8) != 0)) else (none)) else (none)) else (none)) else (none))) else (spec_InvM.l1 k x4 x5 x7 (wrap64 (x8 + 1)))
def spec_InvM.j6 : Nat → Int → List (List Int) → List (List Int) → Int → Int → Bool → Option ((List (List Int)) × Bool)
 | 0, _, _, _, _, _, _ => none
 | k + 1, x4, x5, x7, x8, x13, x145 => if x145 = true then (if 0 ≤ x13 then (if x13 < (x5.length : Int) then (if 0 ≤ x8 then (if x8 < ((rd_L1 x5 x13).length : Int) then (if x8 < (x5.length : Int) then ((spec_l06Row.f k (rd_L1 x5 x13) (rd_L1 x5 x8) (rd (rd_L1 x5 x13) x8)).bind fun t375 => (if x13 < (x7.length : Int) then (if x8 < (x7.length : Int) then ((spec_l06Row.f k (rd_L1 x7 x13) (rd_L1 x7 x8) (rd (rd_L1 x5 x13) x8)).bind fun t381 => (spec_InvM.l3 k x4 (x5.set (x13 : Int).toNat t375) (x7.set (x13 : Int).toNat t381) x8 (wrap64 (x13 + 1)))) else (none)) else (none))) else (none)) else (none)) else (none)) else (none)) else (none)) else (spec_InvM.l3 k x4 x5 x7 x8 (wrap64 (x13 + 1)))
def spec_InvM.l2 : Nat → Int → List (List Int) → List (List Int) → Int → Int → Option ((List (List Int)) × Bool)
 | 0, _, _, _, _, _ => none
 | k + 1, x4, x5, x7, x8, x9 => if x9 < x4 then (if 0 ≤ x9 then (if x9 < (x5.length : Int) then (if 0 ≤ x8 then (if x8 < ((rd_L1 x5 x9).length : Int) then (if (rd (rd_L1 x5 x9) x8) = 0 then (spec_InvM.l2 k x4 x5 x7 x8 (wrap64 (x9 + 1))) else (spec_InvM.j4 k x4 x5 x7 x8 x9)) else (none)) else (none)) else (none)) else (none)) else (spec_InvM.j4 k x4 x5 x7 x8 x9)
end
def spec_InvM.f (k : Nat) (l0 : List (List Int)) : Option ((List (List Int)) × Bool) := (spec_MatrixOk.f k l0).bind fun t322 => (if t322 = true then (if 0 < (l0.length : Int) then (spec_InvM.j0 k l0 ((l0.length : Int) != ((rd_L1 l0 0).length : Int))) else (none)) else (spec_InvM.j0 k l0 true))
theorem spec_InvM.mono_l : ∀ k, (∀ y0 y1, LeO (spec_InvM.j0 k y0 y1) (spec_InvM.j0 (k + 1) y0 y1)) ∧ (∀ y0 y1 y2 y3, LeO (spec_InvM.l0 k y0 y1 y2 y3) (spec_InvM.l0 (k + 1) y0 y1 y2 y3)) ∧ (∀ y0 y1 y2 y3, LeO (spec_InvM.l1 k y0 y1 y2 y3) (spec_InvM.l1 (k + 1) y0 y1 y2 y3)) ∧ (∀ y0 y1 y2 y3 y4, LeO (spec_InvM.j4 k y0 y1 y2 y3 y4) (spec_InvM.j4 (k + 1) y0 y1 y2 y3 y4)) ∧ (∀ y0 y1 y2 y3 y4, LeO (spec_InvM.l3 k y0 y1 y2 y3 y4) (spec_InvM.l3 (k + 1) y0 y1 y2 y3 y4)) ∧ (∀ y0 y1 y2 y3 y4 y5, LeO (spec_InvM.j6 k y0 y1 y2 y3 y4 y5) (spec_InvM.j6 (k + 1) y0 y1 y2 y3 y4 y5)) ∧ (∀ y0 y1 y2 y3 y4, LeO (spec_InvM.l2 k y0 y1 y2 y3 y4) (spec_InvM.l2 (k + 1) y0 y1 y2 y3 y4))
 | 0 => ⟨fun _ _ r h => by simp [spec_InvM.j0] at h, fun _ _ _ _ r h => by simp [spec_InvM.l0] at h, fun _ _ _ _ r h => by simp [spec_InvM.l1] at h, fun _ _ _ _ _ r h => by simp [spec_InvM.j4] at h, fun _ _ _ _ _ r h => by simp [spec_InvM.l3] at h, fun _ _ _ _ _ _ r h => by simp [spec_InvM.j6] at h, fun _ _ _ _ _ r h => by simp [spec_InvM.l2] at h⟩
 | k + 1 => by
  obtain ⟨ih0, ih1, ih2, ih3, ih4, ih5, ih6⟩ := spec_InvM.mono_l k
  refine ⟨?_, ?_, ?_, ?_, ?_, ?_, ?_⟩
  ·intro y0 y1
   unfold spec_InvM.j0
   repeat' first
   | (with_reducible exact ih0 _ _)
   | (with_reducible exact ih1 _ _ _ _)
   | (with_reducible exact ih2 _ _ _ _)
   | (with_reducible exact ih3 _ _ _ _ _)
   | (with_reducible exact ih4 _ _ _ _ _)
   | (with_reducible exact ih5 _ _ _ _ _ _)
   | (with_reducible exact ih6 _ _ _ _ _)
   | (with_reducible exact spec_InvG.mono _ _)
   | (with_reducible exact spec_MatrixOk.mono _ _)
   | (with_reducible exact spec_OneM.mono _ _)
   | (with_reducible exact spec_l06Row.mono _ _ _ _)
   | (with_reducible exact spec_l06Times.mono _ _ _)
   | (with_reducible exact LeO.refl _)
   | (with_reducible refine LeO.ite ?_ ?_)
   | (with_reducible refine LeO.bind ?_ (fun _ => ?_))
   | exact ih0 _ _
   | exact ih1 _ _ _ _
   | exact ih2 _ _ _ _
   | exact ih3 _ _ _ _ _
   | exact ih4 _ _ _ _ _
   | exact ih5 _ _ _ _ _ _
   | exact ih6 _ _ _ _ _
   | exact spec_InvG.mono _ _
   | exact spec_MatrixOk.mono _ _
   | exact spec_OneM.mono _ _
   | exact spec_l06Row.mono _ _ _ _
   | exact spec_l06Times.mono _ _ _
   | exact LeO.none _
   | refine LeO.ite ?_ ?_
   | refine LeO.bind ?_ (fun _ => ?_)
  ·intro y0 y1 y2 y3
   unfold spec_InvM.l0
   repeat' first
   | (with_reducible exact ih0 _ _)
   | (with_reducible exact ih1 _ _ _ _)
   | (with_reducible exact ih2 _ _ _ _)
   | (with_reducible exact ih3 _ _ _ _ _)
   | (with_reducible exact ih4 _ _ _ _ _)
   | (with_reducible exact ih5 _ _ _ _ _ _)
   | (with_reducible exact ih6 _ _ _ _ _)
   | (with_reducible exact spec_InvG.mono _ _)
   | (with_reducible exact spec_MatrixOk.mono _ _)
   | (with_reducible exact spec_OneM.mono _ _)
   | (with_reducible exact spec_l06Row.mono _ _ _ _)
   | (with_reducible exact spec_l06Times.mono _ _ _)
   | (with_reducible exact LeO.refl _)
   | (with_reducible refine LeO.ite ?_ ?_)
   | (with_reducible refine LeO.bind ?_ (fun _ => ?_))
   | exact ih0 _ _
   | exact ih1 _ _ _ _
   | exact ih2 _ _ _ _
   | exact ih3 _ _ _ _ _
   | exact ih4 _ _ _ _ _
   | exact ih5 _ _ _ _ _ _
   | exact ih6 _ _ _ _ _
   | exact spec_InvG.mono _ _
   | exact spec_MatrixOk.mono _ _
   | exact spec_OneM.mono _ _
   | exact spec_l06Row.mono _ _ _ _
   | exact spec_l06Times.mono _ _ _
   | exact LeO.none _
   | refine LeO.ite ?_ ?_
   | refine LeO.bind ?_ (fun _ => ?_)
  ·intro y0 y1 y2 y3
   unfold spec_InvM.l1
   repeat' first
   | (with_reducible exact ih0 _ _)
   | (with_reducible exact ih1 _ _ _ _)
   | (with_reducible exact ih2 _ _ _ _)
   | (with_reducible exact ih3 _ _ _ _ _)
   | (with_reducible exact ih4 _ _ _ _ _)
   | (with_reducible exact ih5 _ _ _ _ _ _)
   | (with_reducible exact ih6 _ _ _ _ _)
   | (with_reducible exact spec_InvG.mono _ _)
   | (with_reducible exact spec_MatrixOk.mono _ _)
   | (with_reducible exact spec_OneM.mono _ _)
   | (with_reducible exact spec_l06Row.mono _ _ _ _)
   | (with_reducible exact spec_l06Times.mono _ _ _)
   | (with_reducible exact LeO.refl _)
   | (with_reducible refine LeO.ite ?_ ?_)
   | (with_reducible refine LeO.bind ?_ (fun _ => ?_))
   | exact ih0 _ _
   | exact ih1 _ _ _ _
   | exact ih2 _ _ _ _
   | exact ih3 _ _ _ _ _
   | exact ih4 _ _ _ _ _
   | exact ih5 _ _ _ _ _ _
   | exact ih6 _ _ _ _ _
   | exact spec_InvG.mono _ _
   | exact spec_MatrixOk.mono _ _
   | exact spec_OneM.mono _ _
   | exact spec_l06Row.mono _ _ _ _
   | exact spec_l06Times.mono _ _ _
   | exact LeO.none _
   | refine LeO.ite ?_ ?_
   | refine LeO.bind ?_ (fun _ => ?_)
  ·intro y0 y1 y2 y3 y4
   unfold spec_InvM.j4
   repeat' first
   | (with_reducible exact ih0 _ _)
   | (with_reducible exact ih1 _ _ _ _)
   | (with_reducible exact ih2 _ _ _ _)
   | (with_reducible exact ih3 _ _ _ _ _)
   | (with_reducible exact ih4 _ _ _ _ _)
   | (with_reducible exact ih5 _ _ _ _ _ _)
   | (with_reducible exact ih6 _ _ _ _ _)
   | (with_reducible exact spec_InvG.mono _ _)
   | (with_reducible exact spec_MatrixOk.mono _ _)
   | (with_reducible exact spec_OneM.mono _ _)
   | (with_reducible exact spec_l06Row.mono _ _ _ _)
   | (with_reducible exact spec_l06Times.mono _ _ _)
   | (with_reducible exact LeO.refl _)
   | (with_reducible refine LeO.ite ?_ ?_)
   | (with_reducible refine LeO.bind ?_ (fun _ => ?_))
   | exact ih0 _ _
   | exact ih1 _ _ _ _
   | exact ih2 _ _ _ _
   | exact ih3 _ _ _ _ _
   | exact ih4 _ _ _ _ _
   | exact ih5 _ _ _ _ _ _
   | exact ih6 _ _ _ _ _
   | exact spec_InvG.mono _ _
   | exact spec_MatrixOk.mono _ _
   | exact spec_OneM.mono _ _
   | exact spec_l06Row.mono _ _ _ _
   | exact spec_l06Times.mono _ _ _
   | exact LeO.none _
   | refine LeO.ite ?_ ?_
   | refine LeO.bind ?_ (fun _ => ?_)
  ·intro y0 y1 y2 y3 y4
   unfold spec_InvM.l3
   repeat' first
   | (with_reducible exact ih0 _ _)
   | (with_reducible exact ih1 _ _ _ _)
   | (with_reducible exact ih2 _ _ _ _)
   | (with_reducible exact ih3 _ _ _ _ _)
   | (with_reducible exact ih4 _ _ _ _ _)
   | (with_reducible exact ih5 _ _ _ _ _ _)
   | (with_reducible exact ih6 _ _ _ _ _)
   | (with_reducible exact spec_InvG.mono _ _)
   | (with_reducible exact spec_MatrixOk.mono _ _)
   | (with_reducible exact spec_OneM.mono _ _)
   | (with_reducible exact spec_l06Row.mono _ _ _ _)
   | (with_reducible exact spec_l06Times.mono _ _ _)
   | (with_reducible exact LeO.refl _)
   | (with_reducible refine LeO.ite ?_ ?_)
   | (with_reducible refine LeO.bind ?_ (fun _ => ?_))
   | exact ih0 _ _
   | exact ih1 _ _ _ _
   | exact ih2 _ _ _ _
   | exact ih3 _ _ _ _ _
   | exact ih4 _ _ _ _ _
   | exact ih5 _ _ _ _ _ _
   | exact ih6 _ _ _ _ _
   | exact spec_InvG.mono _ _
   | exact spec_MatrixOk.mono _ _
   | exact spec_OneM.mono _ _
   | exact spec_l06Row.mono _ _ _ _
   | exact spec_l06Times.mono _ _ _
   | exact LeO.none _
   | refine LeO.ite ?_ ?_
   | refine LeO.bind ?_ (fun _ => ?_)
  ·intro y0 y1 y2 y3 y4 y5
   unfold spec_InvM.j6
   repeat' first
   | (with_reducible exact ih0 _ _)
   | (with_reducible exact ih1 _ _ _ _)
   | (with_reducible exact ih2 _ _ _ _)
   | (with_reducible exact ih3 _ _ _ _ _)
   | (with_reducible exact ih4 _ _ _ _ _)
   | (with_reducible exact ih5 _ _ _ _ _ _)
   | (with_reducible exact ih6 _ _ _ _ _)
   | (with_reducible exact spec_InvG.mono _ _)
   | (with_reducible exact spec_MatrixOk.mono _ _)
   | (with_reducible exact spec_OneM.mono _ _)
   | (with_reducible exact spec_l06Row.mono _ _ _ _)
   | (with_reducible exact spec_l06Times.mono _ _ _)
   | (with_reducible exact LeO.refl _)
   | (with_reducible refine LeO.ite ?_ ?_)
   | (with_reducible refine LeO.bind ?_ (fun _ => ?_))
   | exact ih0 _ _
   | exact ih1 _ _ _ _
   | exact ih2 _ _ _ _
   | exact ih3 _ _ _ _ _
   | exact ih4 _ _ _ _ _
   | exact ih5 _ _ _ _ _ _
   | exact ih6 _ _ _ _ _
   | exact spec_InvG.mono _ _
   | exact spec_MatrixOk.mono _ _
   | exact spec_OneM.mono _ _
   | exact spec_l06Row.mono _ _ _ _
   | exact spec_l06Times.mono _ _ _
   | exact LeO.none _
   | refine LeO.ite ?_ ?_
   | refine LeO.bind ?_ (fun _ => ?_)
  ·intro y0 y1 y2 y3 y4
   unfold spec_InvM.l2
   repeat' first
   | (with_reducible exact ih0 _ _)
   | (with_reducible exact ih1 _ _ _ _)
   | (with_reducible exact ih2 _ _ _ _)
   | (with_reducible exact ih3 _ _ _ _ _)
   | (with_reducible exact ih4 _ _ _ _ _)
   | (with_reducible exact ih5 _ _ _ _ _ _)
   | (with_reducible exact ih6 _ _ _ _ _)
   | (with_reducible exact spec_InvG.mono _ _)
   | (with_reducible exact spec_MatrixOk.mono _ _)
   | (with_reducible exact spec_OneM.mono _ _)
   | (with_reducible exact spec_l06Row.mono _ _ _ _)
   | (with_reducible exact spec_l06Times.mono _ _ _)
   | (with_reducible exact LeO.refl _)
   | (with_reducible refine LeO.ite ?_ ?_)
   | (with_reducible refine LeO.bind ?_ (fun _ => ?_))
   | exact ih0 _ _
   | exact ih1 _ _ _ _
   | exact ih2 _ _ _ _
   | exact ih3 _ _ _ _ _
   | exact ih4 _ _ _ _ _
   | exact ih5 _ _ _ _ _ _
   | exact ih6 _ _ _ _ _
   | exact spec_InvG.mono _ _
   | exact spec_MatrixOk.mono _ _
   | exact spec_OneM.mono _ _
   | exact spec_l06Row.mono _ _ _ _
   | exact spec_l06Times.mono _ _ _
   | exact LeO.none _
   | refine LeO.ite ?_ ?_
   | refine LeO.bind ?_ (fun _ => ?_)
theorem spec_InvM.mono : ∀ a0 k, LeO (spec_InvM.f k a0) (spec_InvM.f (k + 1) a0) := by
 intro a0 k
 obtain ⟨ih0, ih1, ih2, ih3, ih4, ih5, ih6⟩ := spec_InvM.mono_l k
 unfold spec_InvM.f
 repeat' first
   | (with_reducible exact ih0 _ _)
   | (with_reducible exact ih1 _ _ _ _)
   | (with_reducible exact ih2 _ _ _ _)
   | (with_reducible exact ih3 _ _ _ _ _)
   | (with_reducible exact ih4 _ _ _ _ _)
   | (with_reducible exact ih5 _ _ _ _ _ _)
   | (with_reducible exact ih6 _ _ _ _ _)
   | (with_reducible exact spec_InvG.mono _ _)
   | (with_reducible exact spec_MatrixOk.mono _ _)
   | (with_reducible exact spec_OneM.mono _ _)
   | (with_reducible exact spec_l06Row.mono _ _ _ _)
   | (with_reducible exact spec_l06Times.mono _ _ _)
   | (with_reducible exact LeO.refl _)
   | (with_reducible refine LeO.ite ?_ ?_)
   | (with_reducible refine LeO.bind ?_ (fun _ => ?_))
   | exact ih0 _ _
   | exact ih1 _ _ _ _
   | exact ih2 _ _ _ _
   | exact ih3 _ _ _ _ _
   | exact ih4 _ _ _ _ _
   | exact ih5 _ _ _ _ _ _
   | exact ih6 _ _ _ _ _
   | exact spec_InvG.mono _ _
   | exact spec_MatrixOk.mono _ _
   | exact spec_OneM.mono _ _
   | exact spec_l06Row.mono _ _ _ _
   | exact spec_l06Times.mono _ _ _
   | exact LeO.none _
   | refine LeO.ite ?_ ?_
   | refine LeO.bind ?_ (fun _ => ?_)
def spec_InvM.T32 : Bool × List (List Nat × List Nat) := (true, [([], []), ([], []), ([], []), ([], []), ([2, 3], [2, 3]), ([4], [4]), ([], []), ([], []), ([6, 7], [6, 7]), ([8], [8]), ([], []), ([5, 9, 10], [5, 9, 10]), ([0, 1, 0, 1, 2, 3, 4, 5, 6, 7, 8, 9, 10, 11], [0, 1]), ([12, 11, 11, 0, 1, 2, 3, 4, 5, 6, 7, 8, 9, 10, 11], [11, 12])])
def spec_InvM.B32 : List Nat := [0, 0, 0, 0, 12, 28, 0, 0, 192, 448, 0, 2044, 4095, 8191]
theorem spec_InvM.tab32 : rtab .any (opsOf Try.f39 32) = spec_InvM.T32 := by kernel_rfl
theorem spec_InvM.bits32 : waitsOk spec_InvM.T32.2 spec_InvM.B32 = true := by kernel_rfl
def spec_InvM.T33 : Bool × List (List Nat × List Nat) := (true, [([], []), ([], []), ([], []), ([], []), ([2, 3], [2, 3]), ([4], [4]), ([], []), ([], []), ([6, 7], [6, 7]), ([8], [8]), ([], []), ([5, 9, 10], [5, 9, 10]), ([0, 1, 0, 1, 2, 3, 4, 5, 6, 7, 8, 9, 10, 11], [0, 1]), ([12, 11, 11, 0, 1, 2, 3, 4, 5, 6, 7, 8, 9, 10, 11], [11, 12])])
def spec_InvM.B33 : List Nat := [0, 0, 0, 0, 12, 28, 0, 0, 192, 448, 0, 2044, 4095, 8191]
theorem spec_InvM.tab33 : rtab .any (opsOf Try.f39 33) = spec_InvM.T33 := by kernel_rfl
theorem spec_InvM.bits33 : waitsOk spec_InvM.T33.2 spec_InvM.B33 = true := by kernel_rfl
set_option maxHeartbeats 8000000 in
set_option maxRecDepth 100000 in
theorem spec_InvM.calls (k : Nat) (A0 : Option Addr) (c0 : Nat) (l0 : List (List Int)) (r1 : List (List Int)) (r2 : Bool) (w : World) (hr0 : Kd.C (Kd.slice 3 (Kd.int .i64)) w A0 l0.length l0) (hc0 : l0.length ≤ c0) (h : spec_InvM.f k l0 = some (r1, r2)) :
  Calls Try.prog 39 #[.slice A0 l0.length c0] w fun e w' => ∃ v0_ : Value, e = .returned (.tuple #[v0_, .bool r2]) ∧ Kd.N (Kd.slice 3 (Kd.int .i64)) 32 w' w.heap.size (fun k_ => (w.heap.size ≤ k_)) v0_ r1 ∧ Below w.heap.size w w' := by
 have HR0 := Aside0.mk hr0
 have HC0 := Aside0.mk hc0
 clear hr0 hc0
 have HB := Aside0.mk (Below.refl w.heap.size w)
 have H : ((spec_MatrixOk.f k l0).bind fun t322 => (if t322 = true then (if 0 < (l0.length : Int) then (spec_InvM.j0 k l0 ((l0.length : Int) != ((rd_L1 l0 0).length : Int))) else (none)) else (spec_InvM.j0 k l0 true))) = some (r1, r2) := h
 clear h
 have HC2 := Aside0.mk H
 clear H
 go_enter Try.func39, Try.ntmps39
 go_upto_region 1 with (fail)
 go_cut [26] (fun v26 wc => ∃ (kq : Nat) (x26_1 : Bool), v26 = .bool x26_1 ∧ Aside0 (spec_InvM.j0 kq l0 x26_1 = some (r1, r2)) ∧ Aside0 (kq ≤ k) ∧ Aside0 (Below w.heap.size w wc))
 case first =>
  have H := HC2.out
  clear HC2
  replace H := Option.bind_eq_some_iff.mp H
  obtain ⟨t322, A30, H⟩ := H
  replace H : (if t322 = true then (if 0 < (l0.length : Int) then (spec_InvM.j0 k l0 ((l0.length : Int) != ((rd_L1 l0 0).length : Int))) else (none)) else (spec_InvM.j0 k l0 true)) = some (r1, r2) := H
  have A3 := Aside0.mk A30
  clear A30
  by_cases c4 : t322 = true
  ·subst c4
   have H1 : (if 0 < (l0.length : Int) then (spec_InvM.j0 k l0 ((l0.length : Int) != ((rd_L1 l0 0).length : Int))) else (none)) = some (r1, r2) := by rw [if_pos rfl] at H; exact H
   clear H
   have H := H1
   clear H1
   by_cases c5 : 0 < (l0.length : Int)
   ·rw [if_pos c5] at H
    have c5b0 : decide (0 < (l0.length : Int)) = true := decide_eq_true c5
    have c5b1 : decide (0 < l0.length) = true := decide_eq_true (by omega)
    clear c5
    (first | rw [c5b0] | (simp only [i64_w, i32_w]; rw [c5b0]) | rw [c5b1] | skip)
    have H' := Aside0.mk H
    clear H
    go_wp2_with (first | ((with_reducible refine gate_callee (f := 51) rfl ?_); refine goesL_ (some 16) rfl rfl Try.func51 (by kernel_rfl) rfl #[.slice A0 l0.length c0] rfl (by (try simp only [List.map_toArray, List.map_cons, List.map_nil]); first | done | rfl) ?_; (with_reducible refine (spec_MatrixOk.calls k _ _ l0 true _ ?side1 ?side2 A3.out).mono ?_); (case side1 => repeat (first | exact (Kd.C_below HR0.out HB.out) | (with_reducible refine Kd.C_alloc ?_ _) | (with_reducible refine Kd.C_drewN ?_ _) | (with_reducible refine Kd.C_drew ?_))); (case side2 => exact HC0.out); rintro e w' ⟨rfl, ⟨nd, rfl⟩⟩; refine ⟨_, rfl, ?_⟩; have p323 : 0 ≤ (0 : Int) := (by omega); have q323 : 0 < (l0.length : Int) := of_decide_eq_true (by assumption); obtain ⟨ad323, A323_0, c323_0, e323, hx323_0, hl323_0, hi323_0⟩ := at_L1 HR0.out 0 p323 q323; cases e323; have qi323 : (0 < l0.length) = True := eq_true (by omega); (try rw [show ((0 : Int)).toNat = 0 from rfl] at hx323_0); (try rw [Addr.add_zero'] at hx323_0); replace hx323_0 := (HB.out.cell (World.block_lt_of_cell? w _ hx323_0)).trans hx323_0; have HR323_0 := Aside0.mk hi323_0; have HC323_0 := Aside0.mk hl323_0; clear hi323_0 hl323_0; replace p323 := eq_true p323; replace q323 := eq_true q323))
    go_meet
    case rel => exact ⟨_, (((l0.length : Int) != ((rd_L1 l0 0).length : Int))), (by first | rfl | (simp; done) | (simp [*]; done)), H', ⟨by first | omega | exact Nat.le_refl _⟩, ⟨by repeat (first | exact HB.out | apply below_alloc | apply pw_below_drewN | apply below_drew1)⟩⟩
   ·rw [if_neg c5] at H
    exact absurd H (by simp)
  ·replace c4 := Bool.eq_false_iff.mpr c4
   subst c4
   have H1 : (spec_InvM.j0 k l0 true) = some (r1, r2) := by rw [if_neg (show ¬ (false = true) by decide)] at H; exact H
   clear H
   have H := H1
   clear H1
   have H' := Aside0.mk H
   clear H
   go_wp2_with (first | ((with_reducible refine gate_callee (f := 51) rfl ?_); refine goesL_ (some 16) rfl rfl Try.func51 (by kernel_rfl) rfl #[.slice A0 l0.length c0] rfl (by (try simp only [List.map_toArray, List.map_cons, List.map_nil]); first | done | rfl) ?_; (with_reducible refine (spec_MatrixOk.calls k _ _ l0 false _ ?side1 ?side2 A3.out).mono ?_); (case side1 => repeat (first | exact (Kd.C_below HR0.out HB.out) | (with_reducible refine Kd.C_alloc ?_ _) | (with_reducible refine Kd.C_drewN ?_ _) | (with_reducible refine Kd.C_drew ?_))); (case side2 => exact HC0.out); rintro e w' ⟨rfl, ⟨nd, rfl⟩⟩; refine ⟨_, rfl, ?_⟩))
   go_meet
   case rel => exact ⟨_, (true), (by first | rfl | (simp; done) | (simp [*]; done)), H', ⟨by first | omega | exact Nat.le_refl _⟩, ⟨by repeat (first | exact HB.out | apply below_alloc | apply pw_below_drewN | apply below_drew1)⟩⟩
 case rest =>
  clear HC2
  obtain ⟨kq, x26_1, rfl, HA, HJ1, HB⟩ := hcut
  cases kq with
  | zero => exact absurd HA.out (by simp [spec_InvM.j0])
  | succ kj1 =>
   have H := HA.out
   clear HA
   simp only [spec_InvM.j0] at H
   by_cases c6 : x26_1 = true
   ·subst c6
    have H1 : (some ((([] : List (List Int))), false)) = some (r1, r2) := by rw [if_pos rfl] at H; exact H
    clear H
    have H := H1
    clear H1
    obtain ⟨y324, hy324⟩ : ∃ y_ : List (List Int), y_ = (([] : List (List Int))) := ⟨_, rfl⟩
    replace H : (some (y324, false)) = some (r1, r2) := by first | (rw [hy324]; with_reducible exact H) | (have H2_ := (Option.bind_some _ _).symm.trans H; rw [hy324]; with_reducible exact H2_) | (have H2_ := (Option.bind_some _ _).symm.trans H; with_reducible exact H2_) | with_reducible exact H | (rw [hy324]; exact H) | exact H
    have Ny324 := Aside0.mk hy324
    clear hy324
    simp only [Option.some.injEq, Prod.mk.injEq] at H
    obtain ⟨rfl, rfl⟩ := H
    go_wp2_with (first | ((with_reducible refine gate_dst (N := 27) rfl ?_); (try (refine gate_guard (by rfl) ?_; dsimp only)); refine Kd.N_lit (Kd.slice 3 (Kd.int .i64)) _ 32 ?hg (N' := 27) ?hd (xs := ([] : List (List Int))) (inner := []) (ok := (fun k_ => (w.heap.size ≤ k_))) (okp := (fun k_ => (w.heap.size ≤ k_))) ?hr ?hp (fun _ hk => hk) ((show ∀ k_, wc.heap.size ≤ k_ → (fun k_ => (w.heap.size ≤ k_)) k_ from fun k_ hk => (Nat.le_trans (below_size (by repeat (first | exact HB.out | apply below_alloc | apply pw_below_drewN | apply below_drew1))) hk)) _ (Nat.le_refl _)) (Below.refl _ _) (Nat.le_refl _) (by simp) ?_; (case hd => rfl); (case hg => rfl); (case hr => first | (go_simp; done) | (go_simp; rfl)); (case hp => exact (Reps.none _ _)); intro v325 w7 ho8 hb hg_ hnew_; clear hg_ hnew_; (first | rw [← Ny324.out] at ho8 | (simp only [Int.reduceToNat] at ho8; rw [← Ny324.out] at ho8)); have n0_ := Aside0.mk (Kd.N_lower ho8 (below_size (by repeat (first | exact HB.out | apply below_alloc | apply pw_below_drewN | apply below_drew1)))); have n1_ := Aside0.mk (below_step (by repeat (first | exact HB.out | apply below_alloc | apply pw_below_drewN | apply below_drew1)) hb); clear HB; have HO326 := n0_; have HB := n1_; clear n0_ n1_; clear hb ho8))
    go_ret2
    exact ⟨_, by first | rfl | (simp [errW_none, errW_some] <;> rfl) | (simp [*, errW_none, errW_some] <;> rfl), by exact HO326.out, by repeat (first | exact HB.out | apply below_alloc | apply pw_below_drewN | apply below_drew1)⟩
   ·replace c6 := Bool.eq_false_iff.mpr c6
    subst c6
    have H1 : (spec_InvM.l0 kj1 l0 (l0.length : Int) (([] : List (List Int))) 0) = some (r1, r2) := by rw [if_neg (show ¬ (false = true) by decide)] at H; exact H
    clear H
    have H := H1
    clear H1
    obtain ⟨y327, hy327⟩ : ∃ y_ : List (List Int), y_ = (([] : List (List Int))) := ⟨_, rfl⟩
    replace H : (spec_InvM.l0 kj1 l0 (l0.length : Int) y327 0) = some (r1, r2) := by first | (rw [hy327]; with_reducible exact H) | (have H2_ := (Option.bind_some _ _).symm.trans H; rw [hy327]; with_reducible exact H2_) | (have H2_ := (Option.bind_some _ _).symm.trans H; with_reducible exact H2_) | with_reducible exact H | (rw [hy327]; exact H) | exact H
    have Ny327 := Aside0.mk hy327
    clear hy327
    have H' := Aside0.mk H
    clear H
    go_wp2_with (first | ((with_reducible refine gate_dst (N := 30) rfl ?_); (try (refine gate_guard (by rfl) ?_; dsimp only)); refine Kd.N_lit (Kd.slice 3 (Kd.int .i64)) _ 32 ?hg (N' := 30) ?hd (xs := ([] : List (List Int))) (inner := []) (ok := (fun k_ => (w.heap.size ≤ k_))) (okp := (fun k_ => (w.heap.size ≤ k_))) ?hr ?hp (fun _ hk => hk) ((show ∀ k_, wc.heap.size ≤ k_ → (fun k_ => (w.heap.size ≤ k_)) k_ from fun k_ hk => (Nat.le_trans (below_size (by repeat (first | exact HB.out | apply below_alloc | apply pw_below_drewN | apply below_drew1))) hk)) _ (Nat.le_refl _)) (Below.refl _ _) (Nat.le_refl _) (by simp) ?_; (case hd => rfl); (case hg => rfl); (case hr => first | (go_simp; done) | (go_simp; rfl)); (case hp => exact (Reps.none _ _)); intro v328 w9 ho10 hb hg_ hnew_; clear hg_ hnew_; (first | rw [← Ny327.out] at ho10 | (simp only [Int.reduceToNat] at ho10; rw [← Ny327.out] at ho10)); have n0_ := Aside0.mk (Kd.N_lower ho10 (below_size (by repeat (first | exact HB.out | apply below_alloc | apply pw_below_drewN | apply below_drew1)))); have n1_ := Aside0.mk (below_step (by repeat (first | exact HB.out | apply below_alloc | apply pw_below_drewN | apply below_drew1)) hb); clear HB; have HO329 := n0_; have HB := n1_; clear n0_ n1_; clear hb ho10))
    go_loopg [5, 6] kj1 (fun kq v5 v6 w' => ∃ (x5_2 : List (List Int)) (x6_2 : Int), v6 = .int .i64 x6_2 ∧ Aside0 (spec_InvM.l0 kq l0 (l0.length : Int) x5_2 x6_2 = some (r1, r2)) ∧ Aside0 (kq ≤ kj1) ∧ Aside0 (Kd.N (Kd.slice 3 (Kd.int .i64)) 32 w' w.heap.size (fun k_ => (w.heap.size ≤ k_)) v5 x5_2) ∧ Aside0 (Below w.heap.size w w'))
    case atStart => exact ⟨(y327), (0), (by first | rfl | (simp; done) | (simp [*]; done)), H', ⟨Nat.le_refl _⟩, ⟨by exact HO329.out⟩, ⟨by repeat (first | exact HB.out | apply below_alloc | apply pw_below_drewN | apply below_drew1)⟩⟩
    case round =>
     clear H'
     obtain ⟨x5_2, x6_2, rfl, HA, HK2, HO_5, HB⟩ := hrel
     cases gk with
     | zero => exact absurd HA.out (by simp [spec_InvM.l0])
     | succ k2 =>
      have H := HA.out
      clear HA
      simp only [spec_InvM.l0] at H
      by_cases c11 : x6_2 < (l0.length : Int)
      ·rw [if_pos c11] at H
       have c11b0 : decide (x6_2 < (l0.length : Int)) = true := decide_eq_true c11
       clear c11
       obtain ⟨y330, hy330⟩ : ∃ y_ : List Int, y_ = (([] : List Int)) := ⟨_, rfl⟩
       replace H : (if 0 ≤ x6_2 then (if x6_2 < (l0.length : Int) then (if y330.length + (rd_L1 l0 x6_2).length < 17592186044416 then (if x5_2.length < 5864062014805 then (spec_InvM.l0 k2 l0 (l0.length : Int) (x5_2 ++ [(y330 ++ (rd_L1 l0 x6_2))]) (wrap64 (x6_2 + 1))) else (none)) else (none)) else (none)) else (none)) = some (r1, r2) := by first | (rw [hy330]; with_reducible exact H) | (have H2_ := (Option.bind_some _ _).symm.trans H; rw [hy330]; with_reducible exact H2_) | (have H2_ := (Option.bind_some _ _).symm.trans H; with_reducible exact H2_) | with_reducible exact H | (rw [hy330]; exact H) | exact H
       have Ny330 := Aside0.mk hy330
       clear hy330
       by_cases c12 : 0 ≤ x6_2
       ·rw [if_pos c12] at H
        have c12b0 : decide (0 ≤ x6_2) = true := decide_eq_true c12
        clear c12
        by_cases c13 : x6_2 < (l0.length : Int)
        ·rw [if_pos c13] at H
         have c13b0 : decide (x6_2 < (l0.length : Int)) = true := decide_eq_true c13
         clear c13
         by_cases c14 : y330.length + (rd_L1 l0 x6_2).length < 17592186044416
         ·rw [if_pos c14] at H
          have LMc14 := Aside0.mk c14
          clear c14
          obtain ⟨y334, hy334⟩ : ∃ y_ : List Int, y_ = (y330 ++ (rd_L1 l0 x6_2)) := ⟨_, rfl⟩
          replace H : (if x5_2.length < 5864062014805 then (spec_InvM.l0 k2 l0 (l0.length : Int) (x5_2 ++ [y334]) (wrap64 (x6_2 + 1))) else (none)) = some (r1, r2) := by first | (rw [hy334]; with_reducible exact H) | (have H2_ := (Option.bind_some _ _).symm.trans H; rw [hy334]; with_reducible exact H2_) | (have H2_ := (Option.bind_some _ _).symm.trans H; with_reducible exact H2_) | with_reducible exact H | (rw [hy334]; exact H) | exact H
          have Ny334 := Aside0.mk hy334
          clear hy334
          by_cases c15 : x5_2.length < 5864062014805
          ·rw [if_pos c15] at H
           have LMc15 := Aside0.mk c15
           clear c15
           obtain ⟨y337, hy337⟩ : ∃ y_ : List (List Int), y_ = (x5_2 ++ [y334]) := ⟨_, rfl⟩
           replace H : (spec_InvM.l0 k2 l0 (l0.length : Int) y337 (wrap64 (x6_2 + 1))) = some (r1, r2) := by first | (rw [hy337]; with_reducible exact H) | (have H2_ := (Option.bind_some _ _).symm.trans H; rw [hy337]; with_reducible exact H2_) | (have H2_ := (Option.bind_some _ _).symm.trans H; with_reducible exact H2_) | with_reducible exact H | (rw [hy337]; exact H) | exact H
           have Ny337 := Aside0.mk hy337
           clear hy337
           have H' := Aside0.mk H
           clear H
           go_wp2_with (first | ((with_reducible refine gate_dst (N := 37) rfl ?_); (try (refine gate_guard (by rfl) ?_; dsimp only)); refine Kd.R_lit (Kd.int .i64) _ 3 ?hg (N := 37) ?hd (xs := ([] : List Int)) (inner := []) (ok := fun _ => True) (okp := fun _ => True) ?hr ?hp (fun _ hk => hk) trivial (Below.refl _ _) (Nat.le_refl _) (by simp) ?_; (case hd => rfl); (case hg => rfl); (case hr => first | (go_simp; done) | (go_simp; rfl)); (case hp => exact (Reps.none _ _)); intro v331 w16 ho17 hb hg_ hnew_; clear hg_ hnew_; (first | rw [← Ny330.out] at ho17 | (simp only [Int.reduceToNat] at ho17; rw [← Ny330.out] at ho17)); have n0_ := Aside0.mk (Kd.N_elder' (by exact HO_5.out) (Kd.R_base ho17) hb); have n1_ := Aside0.mk (Kd.R_lower (Kd.R_newM (M := fun k_ => (w.heap.size ≤ k_)) ho17 (below_size (by repeat (first | exact HB.out | apply below_alloc | apply pw_below_drewN | apply below_drew1))) (fun k_ h_ => h_)) (below_size (by repeat (first | exact HB.out | apply below_alloc | apply pw_below_drewN | apply below_drew1)))); have n2_ := Aside0.mk (below_step (by repeat (first | exact HB.out | apply below_alloc | apply pw_below_drewN | apply below_drew1)) hb); clear HO_5; clear HB; have HO_5 := n0_; have HO332 := n1_; have HB := n2_; clear n0_ n1_ n2_; clear hb ho17; have p333 : 0 ≤ (x6_2 : Int) := of_decide_eq_true (by assumption); have q333 : x6_2 < (l0.length : Int) := of_decide_eq_true (by assumption); obtain ⟨ad333, A333_0, c333_0, e333, hx333_0, hl333_0, hi333_0⟩ := at_L1 HR0.out x6_2 p333 q333; cases e333; replace hx333_0 := (HB.out.cell (World.block_lt_of_cell? w _ hx333_0)).trans hx333_0; have HR333_0 := Aside0.mk hi333_0; have HC333_0 := Aside0.mk hl333_0; clear hi333_0 hl333_0; replace p333 := eq_true p333; replace q333 := eq_true q333) | ((with_reducible refine gate_builtin (b := .append) (xs := #[.tmp 37, .tmp 41]) rfl ?_); (try (refine gate_guard (by rfl) ?_; dsimp only)); at_builtin; refine Kd.R_append_rows (Kd.int .i64) (w0 := w) w.heap.size rfl (.tmp 37) (.tmp 41) 32 3 (.int .i64 0) 8 rfl Try.underlying32 info3 rfl (by decide) (by omega) v331 y330 (rd_L1 l0 x6_2) _ _ _ (fun k_ => (w.heap.size ≤ k_)) (fun _ => False) rfl rfl ?aO ?aR (fun _ _ h => h) (fun _ h => h.elim) ?aF ?aB ?aS ?aL ?_; (case aR => repeat (first | exact (Kd.C_below HR333_0.out HB.out) | (with_reducible refine Kd.C_alloc ?_ _) | (with_reducible refine Kd.C_drewN ?_ _) | (with_reducible refine Kd.C_drew ?_))); (case aB => exact (by repeat (first | exact HB.out | apply below_alloc | apply pw_below_drewN | apply below_drew1))); (case aF => exact (fun k_ hk => (Nat.le_trans (below_size (by repeat (first | exact HB.out | apply below_alloc | apply pw_below_drewN | apply below_drew1))) hk))); (case aO => exact (by exact Kd.R_mono HO332.out (fun _ hk => hk.1))); (case aS => exact (below_size (by repeat (first | exact HB.out | apply below_alloc | apply pw_below_drewN | apply below_drew1)))); (case aL => have := LMc14.out; omega); intro v335 w18 ho hb hg hat; rw [← Ny334.out] at ho; have n0_ := Aside0.mk (Kd.N_afterv (ok := (fun k_ => (w.heap.size ≤ k_))) (by exact HO_5.out) hg hat); have n1_ := Aside0.mk (hb); have n2_ := Aside0.mk (ho); clear HO_5; clear HB; clear HO332; have HO_5 := n0_; have HB := n1_; have HO336 := n2_; clear n0_ n1_ n2_; clear ho hb hg hat; obtain ⟨Ao20, co20, eo20⟩ := Kd.R_slice HO336.out; subst eo20) | ((with_reducible refine gate_builtin (b := .append) (xs := #[.tmp 36, .tmp 43]) rfl ?_); (try (refine gate_guard (by rfl) ?_; dsimp only)); at_builtin; refine Kd.N_append (Kd.slice 3 (Kd.int .i64)) (w0 := w) w.heap.size rfl (.tmp 36) (.tmp 43) 49 32 (.slice none 0 0) 24 rfl Try.underlying49 info32 rfl (by decide) (by omega) u5 x5_2 y334 [.slice Ao20 y334.length co20] (fun k_ => (w.heap.size ≤ k_)) (fun k_ => ((fun k_ => (w.heap.size ≤ k_))) k_ ∧ some k_ ≠ (u5 : Value).ownBlock) rfl rfl ?aP (fun _ hk => hk) ?aF ?aO ?aB ?aS ?aL ?_; (case aP => exact (Kd.FK_slice_mk (Kd.R_reads' (Kd.R_mono (ok' := (fun k_ => ((fun k_ => (w.heap.size ≤ k_))) k_ ∧ some k_ ≠ (u5 : Value).ownBlock)) (Kd.R_apart' (HO336.out) (Kd.N_typed HO_5.out) (by decide)) (fun k_ hk => ⟨hk.1, hk.2⟩))).2.1 (Kd.R_F (Kd.R_mono (ok' := (fun k_ => ((fun k_ => (w.heap.size ≤ k_))) k_ ∧ some k_ ≠ (u5 : Value).ownBlock)) (Kd.R_apart' (HO336.out) (Kd.N_typed HO_5.out) (by decide)) (fun k_ hk => ⟨hk.1, hk.2⟩))))); (case aB => exact (by repeat (first | exact HB.out | apply below_alloc | apply pw_below_drewN | apply below_drew1))); (case aF => exact (fun k_ hk => (Nat.le_trans (below_size (by repeat (first | exact HB.out | apply below_alloc | apply pw_below_drewN | apply below_drew1))) hk))); (case aO => exact (by exact Kd.N_mono HO_5.out (fun _ hk => hk.1))); (case aS => exact (below_size (by repeat (first | exact HB.out | apply below_alloc | apply pw_below_drewN | apply below_drew1)))); (case aL => have := LMc15.out; omega); intro v338 w19 ho hb hg hat; rw [← Ny337.out] at ho; have n0_ := Aside0.mk (hb); have n1_ := Aside0.mk (ho); clear HB; clear HO_5; clear HO336; have HB := n0_; have HO339 := n1_; clear n0_ n1_; clear ho hb hg hat))
           go_roundg k2
           case measure => have := HJ1.out; have := HK2.out; omega
           case rel => exact ⟨(y337), (wrap64 (x6_2 + 1)), (by first | rfl | (simp; done) | (simp [*]; done)), H', ⟨by have := HJ1.out; have := HK2.out; omega⟩, ⟨by exact HO339.out⟩, ⟨by repeat (first | exact HB.out | apply below_alloc | apply pw_below_drewN | apply below_drew1)⟩⟩
          ·rw [if_neg c15] at H
           exact absurd H (by simp)
         ·rw [if_neg c14] at H
          exact absurd H (by simp)
        ·rw [if_neg c13] at H
         exact absurd H (by simp)
       ·rw [if_neg c12] at H
        exact absurd H (by simp)
      ·rw [if_neg c11] at H
       have c11b0 : decide (x6_2 < (l0.length : Int)) = false := decide_eq_false c11
       clear c11
       replace H := Option.bind_eq_some_iff.mp H
       obtain ⟨t340, A210, H⟩ := H
       replace H : (spec_InvM.l1 k2 (l0.length : Int) x5_2 t340 0) = some (r1, r2) := H
       have A21 := Aside0.mk A210
       clear A210
       have H' := Aside0.mk H
       clear H
       go_wp2_with (first | ((with_reducible refine gate_callee (f := 53) rfl ?_); refine goesL_ (some 46) rfl rfl Try.func53 (by kernel_rfl) rfl #[.int .i64 (l0.length : Int)] rfl (by (try simp only [List.map_toArray, List.map_cons, List.map_nil]); first | done | rfl) ?_; (with_reducible refine (spec_OneM.calls k2 (l0.length : Int) t340 _ A21.out).mono ?_); rintro e w22 ⟨v341, rfl, ho0, hb⟩; refine ⟨_, rfl, ?_⟩; have n0_ := Aside0.mk (Kd.N_elder' (by exact HO_5.out) (Kd.S_base ho0) hb); have n1_ := Aside0.mk (Kd.N_lower (Kd.N_mono (ok' := fun k_ => (w.heap.size ≤ k_) ∧ some k_ ≠ (u5 : Value).ownBlock) (Kd.S_N (Kd.S_bound ho0)) (fun k_ hk_ => ⟨(Nat.le_trans (below_size (by repeat (first | exact HB.out | apply below_alloc | apply pw_below_drewN | apply below_drew1))) hk_.2.1), (Kd.fresh' (Kd.N_lt (by exact HO_5.out)) k_ hk_.2.1)⟩)) (below_size (by repeat (first | exact HB.out | apply below_alloc | apply pw_below_drewN | apply below_drew1)))); have n2_ := Aside0.mk (below_step (by repeat (first | exact HB.out | apply below_alloc | apply pw_below_drewN | apply below_drew1)) hb); clear HO_5; clear HB; have HO_5 := n0_; have HO342 := n1_; have HB := n2_; clear n0_ n1_ n2_; (try clear hb); (try clear ho0)))
       go_loopg [8] k2 (fun kq v8 w' => ∃ (x5_3 : List (List Int)) (x7_3 : List (List Int)) (x8_3 : Int), v8 = .int .i64 x8_3 ∧ Aside0 (spec_InvM.l1 kq (l0.length : Int) x5_3 x7_3 x8_3 = some (r1, r2)) ∧ Aside0 (kq ≤ k2) ∧ Aside0 (Kd.N (Kd.slice 3 (Kd.int .i64)) 32 w' w.heap.size (fun k_ => (w.heap.size ≤ k_) ∧ some k_ ≠ (v341 : Value).ownBlock) u5 x5_3) ∧ Aside0 (Kd.N (Kd.slice 3 (Kd.int .i64)) 32 w' w.heap.size (fun k_ => (w.heap.size ≤ k_) ∧ some k_ ≠ (u5 : Value).ownBlock) v341 x7_3) ∧ Aside0 (Below w.heap.size w w'))
       case atStart => exact ⟨(x5_2), (t340), (0), (by first | rfl | (simp; done) | (simp [*]; done)), H', ⟨Nat.le_refl _⟩, ⟨by exact HO_5.out⟩, ⟨by exact HO342.out⟩, ⟨by repeat (first | exact HB.out | apply below_alloc | apply pw_below_drewN | apply below_drew1)⟩⟩
       case round =>
        clear H'
        obtain ⟨x5_3, x7_3, x8_3, rfl, HA, HK3, HO_5, HO_7, HB⟩ := hrel
        cases gk with
        | zero => exact absurd HA.out (by simp [spec_InvM.l1])
        | succ k3 =>
         have H := HA.out
         clear HA
         simp only [spec_InvM.l1] at H
         by_cases c23 : x8_3 < (l0.length : Int)
         ·rw [if_pos c23] at H
          have c23b0 : decide (x8_3 < (l0.length : Int)) = true := decide_eq_true c23
          clear c23
          have HC24 := Aside0.mk H
          clear H
          go_upto_block 4 with (fail)
          go_cut [9] (fun v9 wc => ∃ (kq : Nat) (x9_23 : Int), v9 = .int .i64 x9_23 ∧ Aside0 (spec_InvM.j4 kq (l0.length : Int) x5_3 x7_3 x8_3 x9_23 = some (r1, r2)) ∧ Aside0 (kq ≤ k3) ∧ Aside0 (Kd.N (Kd.slice 3 (Kd.int .i64)) 32 wc w.heap.size (fun k_ => (w.heap.size ≤ k_) ∧ some k_ ≠ (v341 : Value).ownBlock) u5 x5_3) ∧ Aside0 (Kd.N (Kd.slice 3 (Kd.int .i64)) 32 wc w.heap.size (fun k_ => (w.heap.size ≤ k_) ∧ some k_ ≠ (u5 : Value).ownBlock) v341 x7_3) ∧ Aside0 (Below w.heap.size w wc))
          case first =>
           have H := HC24.out
           clear HC24
           have H' := Aside0.mk H
           clear H
           go_wp2
           go_loopg [9] k3 (fun kq v9 w' => ∃ (x9_4 : Int), v9 = .int .i64 x9_4 ∧ Aside0 (spec_InvM.l2 kq (l0.length : Int) x5_3 x7_3 x8_3 x9_4 = some (r1, r2)) ∧ Aside0 (kq ≤ k3) ∧ Aside0 (Kd.N (Kd.slice 3 (Kd.int .i64)) 32 w' w.heap.size (fun k_ => (w.heap.size ≤ k_) ∧ some k_ ≠ (v341 : Value).ownBlock) u5 x5_3) ∧ Aside0 (Kd.N (Kd.slice 3 (Kd.int .i64)) 32 w' w.heap.size (fun k_ => (w.heap.size ≤ k_) ∧ some k_ ≠ (u5 : Value).ownBlock) v341 x7_3) ∧ Aside0 (Below w.heap.size w w'))
           case atStart => exact ⟨(x8_3), (by first | rfl | (simp; done) | (simp [*]; done)), H', ⟨Nat.le_refl _⟩, ⟨by exact HO_5.out⟩, ⟨by exact HO_7.out⟩, ⟨by repeat (first | exact HB.out | apply below_alloc | apply pw_below_drewN | apply below_drew1)⟩⟩
           case round =>
            clear H'
            obtain ⟨x9_4, rfl, HA, HK4, HO_5, HO_7, HB⟩ := hrel
            cases gk with
            | zero => exact absurd HA.out (by simp [spec_InvM.l2])
            | succ k4 =>
             have H := HA.out
             clear HA
             simp only [spec_InvM.l2] at H
             by_cases c25 : x9_4 < (l0.length : Int)
             ·rw [if_pos c25] at H
              have c25b0 : decide (x9_4 < (l0.length : Int)) = true := decide_eq_true c25
              clear c25
              (first | rw [c25b0] | (simp only [i64_w, i32_w]; rw [c25b0]) | rw [c25b1] | skip)
              by_cases c26 : 0 ≤ x9_4
              ·rw [if_pos c26] at H
               have c26b0 : decide (0 ≤ x9_4) = true := decide_eq_true c26
               clear c26
               by_cases c27 : x9_4 < (x5_3.length : Int)
               ·rw [if_pos c27] at H
                have c27b0 : decide (x9_4 < (x5_3.length : Int)) = true := decide_eq_true c27
                clear c27
                by_cases c28 : 0 ≤ x8_3
                ·rw [if_pos c28] at H
                 have c28b0 : decide (0 ≤ x8_3) = true := decide_eq_true c28
                 clear c28
                 by_cases c29 : x8_3 < ((rd_L1 x5_3 x9_4).length : Int)
                 ·rw [if_pos c29] at H
                  have c29b0 : decide (x8_3 < ((rd_L1 x5_3 x9_4).length : Int)) = true := decide_eq_true c29
                  clear c29
                  by_cases c30 : (rd (rd_L1 x5_3 x9_4) x8_3) = 0
                  ·rw [if_pos c30] at H
                   have c30b0 : ((rd (rd_L1 x5_3 x9_4) x8_3) == 0) = true := beq_iff_eq.mpr c30
                   have c30b1 : ((rd (rd_L1 x5_3 x9_4) x8_3) != 0) = false := bne_eq_false_iff_eq.mpr c30
                   clear c30
                   have H' := Aside0.mk H
                   clear H
                   obtain ⟨Ao31, co31, eo31⟩ := Kd.N_slice HO_5.out
                   subst eo31
                   have p343 : 0 ≤ (x9_4 : Int) := of_decide_eq_true (by assumption)
                   have q343 : x9_4 < (x5_3.length : Int) := of_decide_eq_true (by assumption)
                   obtain ⟨ad343, A343_0, c343_0, e343, hx343_0, hl343_0, hi343_0⟩ := at_L1 (Kd.N_reads' HO_5.out).2.2 x9_4 p343 q343
                   cases e343
                   obtain ⟨ce343, hce343, hMe343, hcc343⟩ := Kd.N_get HO_5.out [] x9_4 p343 (by first | exact q343 | exact of_decide_eq_true (by assumption) | (have e_ := (Kd.N_reads' HO_5.out).1; omega))
                   obtain ⟨ua343_0, uc343_0, rfl, ul343_0, ge343_0⟩ := Kd.FK_slice_open hMe343
                   have hv343_0 := hcc343 0 _ rfl
                   rw [Nat.add_zero, show ((Kd.slice 3 (Kd.int .i64))).sz = 1 from rfl, Nat.mul_one] at hv343_0
                   replace hv343_0 := Option.some.inj (hv343_0.symm.trans hx343_0)
                   injection hv343_0 with hva_ hvn_ hvc_
                   rw [hva_] at ge343_0
                   rw [hvc_] at ul343_0
                   have HL343_0 := Aside0.mk (show Kd.V (Kd.int .i64) 3 _ w.heap.size _ _ (rd_L1 x5_3 x9_4) from Kd.V_mk ul343_0 ge343_0)
                   clear hva_ hvn_ hvc_ ge343_0 ul343_0
                   clear hcc343 hce343
                   have HR343_0 := Aside0.mk hi343_0
                   have HC343_0 := Aside0.mk hl343_0
                   clear hi343_0 hl343_0
                   replace p343 := eq_true p343
                   replace q343 := eq_true q343
                   have p344 : 0 ≤ (x8_3 : Int) := of_decide_eq_true (by assumption)
                   have q344 : x8_3 < ((rd_L1 x5_3 x9_4).length : Int) := of_decide_eq_true (by assumption)
                   obtain ⟨ad344, e344, hx344_0⟩ := Kd.at_int (by repeat (first | (with_reducible exact HR343_0.out) | (with_reducible refine Kd.C_alloc ?_ _) | (with_reducible refine Kd.C_drewN ?_ _) | (with_reducible refine Kd.C_drew ?_) | exact HR343_0.out)) x8_3 p344 q344
                   cases e344
                   replace p344 := eq_true p344
                   replace q344 := eq_true q344
                   go_wp2
                   go_roundg k4
                   case measure => have := HJ1.out; have := HK2.out; have := HK3.out; have := HK4.out; omega
                   case rel => exact ⟨(wrap64 (x9_4 + 1)), (by first | rfl | (simp; done) | (simp [*]; done)), H', ⟨by have := HJ1.out; have := HK2.out; have := HK3.out; have := HK4.out; omega⟩, ⟨by exact HO_5.out⟩, ⟨by exact HO_7.out⟩, ⟨by repeat (first | exact HB.out | apply below_alloc | apply pw_below_drewN | apply below_drew1)⟩⟩
                  ·rw [if_neg c30] at H
                   have c30b0 : ((rd (rd_L1 x5_3 x9_4) x8_3) == 0) = false := beq_eq_false_iff_ne.mpr c30
                   have c30b1 : ((rd (rd_L1 x5_3 x9_4) x8_3) != 0) = true := bne_iff_ne.mpr c30
                   have H' := Aside0.mk H
                   clear H
                   obtain ⟨Ao32, co32, eo32⟩ := Kd.N_slice HO_5.out
                   subst eo32
                   have p343 : 0 ≤ (x9_4 : Int) := of_decide_eq_true (by assumption)
                   have q343 : x9_4 < (x5_3.length : Int) := of_decide_eq_true (by assumption)
                   obtain ⟨ad343, A343_0, c343_0, e343, hx343_0, hl343_0, hi343_0⟩ := at_L1 (Kd.N_reads' HO_5.out).2.2 x9_4 p343 q343
                   cases e343
                   obtain ⟨ce343, hce343, hMe343, hcc343⟩ := Kd.N_get HO_5.out [] x9_4 p343 (by first | exact q343 | exact of_decide_eq_true (by assumption) | (have e_ := (Kd.N_reads' HO_5.out).1; omega))
                   obtain ⟨ua343_0, uc343_0, rfl, ul343_0, ge343_0⟩ := Kd.FK_slice_open hMe343
                   have hv343_0 := hcc343 0 _ rfl
                   rw [Nat.add_zero, show ((Kd.slice 3 (Kd.int .i64))).sz = 1 from rfl, Nat.mul_one] at hv343_0
                   replace hv343_0 := Option.some.inj (hv343_0.symm.trans hx343_0)
                   injection hv343_0 with hva_ hvn_ hvc_
                   rw [hva_] at ge343_0
                   rw [hvc_] at ul343_0
                   have HL343_0 := Aside0.mk (show Kd.V (Kd.int .i64) 3 _ w.heap.size _ _ (rd_L1 x5_3 x9_4) from Kd.V_mk ul343_0 ge343_0)
                   clear hva_ hvn_ hvc_ ge343_0 ul343_0
                   clear hcc343 hce343
                   have HR343_0 := Aside0.mk hi343_0
                   have HC343_0 := Aside0.mk hl343_0
                   clear hi343_0 hl343_0
                   replace p343 := eq_true p343
                   replace q343 := eq_true q343
                   have p344 : 0 ≤ (x8_3 : Int) := of_decide_eq_true (by assumption)
                   have q344 : x8_3 < ((rd_L1 x5_3 x9_4).length : Int) := of_decide_eq_true (by assumption)
                   obtain ⟨ad344, e344, hx344_0⟩ := Kd.at_int (by repeat (first | (with_reducible exact HR343_0.out) | (with_reducible refine Kd.C_alloc ?_ _) | (with_reducible refine Kd.C_drewN ?_ _) | (with_reducible refine Kd.C_drew ?_) | exact HR343_0.out)) x8_3 p344 q344
                   cases e344
                   replace p344 := eq_true p344
                   replace q344 := eq_true q344
                   go_wp2
                   go_meet
                   case rel => exact ⟨_, (x9_4), (by first | rfl | (simp; done) | (simp [*]; done)), H', ⟨by have := HJ1.out; have := HK2.out; have := HK3.out; have := HK4.out; first | omega | exact Nat.le_refl _⟩, ⟨by exact HO_5.out⟩, ⟨by exact HO_7.out⟩, ⟨by repeat (first | exact HB.out | apply below_alloc | apply pw_below_drewN | apply below_drew1)⟩⟩
                 ·rw [if_neg c29] at H
                  exact absurd H (by simp)
                ·rw [if_neg c28] at H
                 exact absurd H (by simp)
               ·rw [if_neg c27] at H
                exact absurd H (by simp)
              ·rw [if_neg c26] at H
               exact absurd H (by simp)
             ·rw [if_neg c25] at H
              have c25b0 : decide (x9_4 < (l0.length : Int)) = false := decide_eq_false c25
              clear c25
              (first | rw [c25b0] | (simp only [i64_w, i32_w]; rw [c25b0]) | rw [c25b1] | skip)
              have H' := Aside0.mk H
              clear H
              go_wp2
              go_meet
              case rel => exact ⟨_, (x9_4), (by first | rfl | (simp; done) | (simp [*]; done)), H', ⟨by have := HJ1.out; have := HK2.out; have := HK3.out; have := HK4.out; first | omega | exact Nat.le_refl _⟩, ⟨by exact HO_5.out⟩, ⟨by exact HO_7.out⟩, ⟨by repeat (first | exact HB.out | apply below_alloc | apply pw_below_drewN | apply below_drew1)⟩⟩
          case rest =>
           clear HC24
           obtain ⟨kq, x9_23, rfl, HA, HJ23, HO_5, HO_7, HB⟩ := hcut
           cases kq with
           | zero => exact absurd HA.out (by simp [spec_InvM.j4])
           | succ kj23 =>
            have H := HA.out
            clear HA
            simp only [spec_InvM.j4] at H
            by_cases c33 : x9_23 = (l0.length : Int)
            ·rw [if_pos c33] at H
             have c33b0 : (x9_23 == (l0.length : Int)) = true := beq_iff_eq.mpr c33
             have c33b1 : (x9_23 != (l0.length : Int)) = false := bne_eq_false_iff_eq.mpr c33
             clear c33
             obtain ⟨y345, hy345⟩ : ∃ y_ : List (List Int), y_ = (([] : List (List Int))) := ⟨_, rfl⟩
             replace H : (some (y345, false)) = some (r1, r2) := by first | (rw [hy345]; with_reducible exact H) | (have H2_ := (Option.bind_some _ _).symm.trans H; rw [hy345]; with_reducible exact H2_) | (have H2_ := (Option.bind_some _ _).symm.trans H; with_reducible exact H2_) | with_reducible exact H | (rw [hy345]; exact H) | exact H
             have Ny345 := Aside0.mk hy345
             clear hy345
             simp only [Option.some.injEq, Prod.mk.injEq] at H
             obtain ⟨rfl, rfl⟩ := H
             go_wp2_with (first | ((with_reducible refine gate_dst (N := 71) rfl ?_); (try (refine gate_guard (by rfl) ?_; dsimp only)); refine Kd.N_lit (Kd.slice 3 (Kd.int .i64)) _ 32 ?hg (N' := 71) ?hd (xs := ([] : List (List Int))) (inner := []) (ok := (fun k_ => (w.heap.size ≤ k_) ∧ some k_ ≠ (u5 : Value).ownBlock ∧ some k_ ≠ (v341 : Value).ownBlock)) (okp := (fun k_ => (w.heap.size ≤ k_) ∧ some k_ ≠ (u5 : Value).ownBlock ∧ some k_ ≠ (v341 : Value).ownBlock)) ?hr ?hp (fun _ hk => hk) ((show ∀ k_, wc.heap.size ≤ k_ → (fun k_ => (w.heap.size ≤ k_) ∧ some k_ ≠ (u5 : Value).ownBlock ∧ some k_ ≠ (v341 : Value).ownBlock) k_ from fun k_ hk => ⟨(Nat.le_trans (below_size (by repeat (first | exact HB.out | apply below_alloc | apply pw_below_drewN | apply below_drew1))) hk), Kd.fresh' (Kd.N_lt (by exact HO_5.out)) k_ hk, Kd.fresh' (Kd.N_lt (by exact HO_7.out)) k_ hk⟩) _ (Nat.le_refl _)) (Below.refl _ _) (Nat.le_refl _) (by simp) ?_; (case hd => rfl); (case hg => rfl); (case hr => first | (go_simp; done) | (go_simp; rfl)); (case hp => exact (Reps.none _ _)); intro v346 w34 ho35 hb hg_ hnew_; clear hg_ hnew_; (first | rw [← Ny345.out] at ho35 | (simp only [Int.reduceToNat] at ho35; rw [← Ny345.out] at ho35)); have n0_ := Aside0.mk (Kd.N_elder' (by exact HO_5.out) (Kd.N_base ho35) hb); have n1_ := Aside0.mk (Kd.N_elder' (by exact HO_7.out) (Kd.N_base ho35) hb); have n2_ := Aside0.mk (Kd.N_lower ho35 (below_size (by repeat (first | exact HB.out | apply below_alloc | apply pw_below_drewN | apply below_drew1)))); have n3_ := Aside0.mk (below_step (by repeat (first | exact HB.out | apply below_alloc | apply pw_below_drewN | apply below_drew1)) hb); clear HO_5; clear HO_7; clear HB; have HO_5 := n0_; have HO_7 := n1_; have HO347 := n2_; have HB := n3_; clear n0_ n1_ n2_ n3_; clear hb ho35))
             go_ret2
             exact ⟨_, by first | rfl | (simp [errW_none, errW_some] <;> rfl) | (simp [*, errW_none, errW_some] <;> rfl), by exact Kd.N_mono HO347.out (fun _ hk => hk.1), by repeat (first | exact HB.out | apply below_alloc | apply pw_below_drewN | apply below_drew1)⟩
            ·rw [if_neg c33] at H
             have c33b0 : (x9_23 == (l0.length : Int)) = false := beq_eq_false_iff_ne.mpr c33
             have c33b1 : (x9_23 != (l0.length : Int)) = true := bne_iff_ne.mpr c33
             by_cases c36 : 0 ≤ x9_23
             ·rw [if_pos c36] at H
              have c36b0 : decide (0 ≤ x9_23) = true := decide_eq_true c36
              clear c36
              by_cases c37 : x9_23 < (x5_3.length : Int)
              ·rw [if_pos c37] at H
               have c37b0 : decide (x9_23 < (x5_3.length : Int)) = true := decide_eq_true c37
               clear c37
               by_cases c38 : 0 ≤ x8_3
               ·rw [if_pos c38] at H
                have c38b0 : decide (0 ≤ x8_3) = true := decide_eq_true c38
                clear c38
                by_cases c39 : x8_3 < (x5_3.length : Int)
                ·rw [if_pos c39] at H
                 have c39b0 : decide (x8_3 < (x5_3.length : Int)) = true := decide_eq_true c39
                 clear c39
                 obtain ⟨y350, hy350⟩ : ∃ y_ : List (List Int), y_ = (x5_3.set (x9_23 : Int).toNat (rd_L1 x5_3 x8_3)) := ⟨_, rfl⟩
                 replace H : ((some (y350.set (x8_3 : Int).toNat (rd_L1 x5_3 x9_23) : List (List Int))).bind fun y351 => (if x9_23 < (x7_3.length : Int) then (if x8_3 < (x7_3.length : Int) then ((some ((x7_3.set (x9_23 : Int).toNat (rd_L1 x7_3 x8_3)).set (x8_3 : Int).toNat (rd_L1 x7_3 x9_23) : List (List Int))).bind fun y355 => (if x8_3 < ((rd_L1 y351 x8_3).length : Int) then ((spec_InvG.f kj23 (rd (rd_L1 y351 x8_3) x8_3)).bind fun t358 => ((spec_l06Times.f kj23 (rd_L1 y351 x8_3) t358).bind fun t360 => ((spec_l06Times.f kj23 (rd_L1 y355 x8_3) t358).bind fun t365 => (spec_InvM.l3 kj23 (l0.length : Int) (y351.set (x8_3 : Int).toNat t360) (y355.set (x8_3 : Int).toNat t365) x8_3 0)))) else (none))) else (none)) else (none))) = some (r1, r2) := by first | (rw [hy350]; with_reducible exact H) | (have H2_ := (Option.bind_some _ _).symm.trans H; rw [hy350]; with_reducible exact H2_) | (have H2_ := (Option.bind_some _ _).symm.trans H; with_reducible exact H2_) | with_reducible exact H | (rw [hy350]; exact H) | exact H
                 have Ny350 := Aside0.mk hy350
                 clear hy350
                 obtain ⟨y351, hy351⟩ : ∃ y_ : List (List Int), y_ = (y350.set (x8_3 : Int).toNat (rd_L1 x5_3 x9_23)) := ⟨_, rfl⟩
                 replace H : (if x9_23 < (x7_3.length : Int) then (if x8_3 < (x7_3.length : Int) then ((some ((x7_3.set (x9_23 : Int).toNat (rd_L1 x7_3 x8_3)).set (x8_3 : Int).toNat (rd_L1 x7_3 x9_23) : List (List Int))).bind fun y355 => (if x8_3 < ((rd_L1 y351 x8_3).length : Int) then ((spec_InvG.f kj23 (rd (rd_L1 y351 x8_3) x8_3)).bind fun t358 => ((spec_l06Times.f kj23 (rd_L1 y351 x8_3) t358).bind fun t360 => ((spec_l06Times.f kj23 (rd_L1 y355 x8_3) t358).bind fun t365 => (spec_InvM.l3 kj23 (l0.length : Int) (y351.set (x8_3 : Int).toNat t360) (y355.set (x8_3 : Int).toNat t365) x8_3 0)))) else (none))) else (none)) else (none)) = some (r1, r2) := by first | (rw [hy351]; with_reducible exact H) | (have H2_ := (Option.bind_some _ _).symm.trans H; rw [hy351]; with_reducible exact H2_) | (have H2_ := (Option.bind_some _ _).symm.trans H; with_reducible exact H2_) | with_reducible exact H | (rw [hy351]; exact H) | exact H
                 have Ny351 := Aside0.mk hy351
                 clear hy351
                 by_cases c42 : x9_23 < (x7_3.length : Int)
                 ·rw [if_pos c42] at H
                  have c42b0 : decide (x9_23 < (x7_3.length : Int)) = true := decide_eq_true c42
                  clear c42
                  by_cases c43 : x8_3 < (x7_3.length : Int)
                  ·rw [if_pos c43] at H
                   have c43b0 : decide (x8_3 < (x7_3.length : Int)) = true := decide_eq_true c43
                   clear c43
                   obtain ⟨y354, hy354⟩ : ∃ y_ : List (List Int), y_ = (x7_3.set (x9_23 : Int).toNat (rd_L1 x7_3 x8_3)) := ⟨_, rfl⟩
                   replace H : ((some (y354.set (x8_3 : Int).toNat (rd_L1 x7_3 x9_23) : List (List Int))).bind fun y355 => (if x8_3 < ((rd_L1 y351 x8_3).length : Int) then ((spec_InvG.f kj23 (rd (rd_L1 y351 x8_3) x8_3)).bind fun t358 => ((spec_l06Times.f kj23 (rd_L1 y351 x8_3) t358).bind fun t360 => ((spec_l06Times.f kj23 (rd_L1 y355 x8_3) t358).bind fun t365 => (spec_InvM.l3 kj23 (l0.length : Int) (y351.set (x8_3 : Int).toNat t360) (y355.set (x8_3 : Int).toNat t365) x8_3 0)))) else (none))) = some (r1, r2) := by first | (rw [hy354]; with_reducible exact H) | (have H2_ := (Option.bind_some _ _).symm.trans H; rw [hy354]; with_reducible exact H2_) | (have H2_ := (Option.bind_some _ _).symm.trans H; with_reducible exact H2_) | with_reducible exact H | (rw [hy354]; exact H) | exact H
                   have Ny354 := Aside0.mk hy354
                   clear hy354
                   obtain ⟨y355, hy355⟩ : ∃ y_ : List (List Int), y_ = (y354.set (x8_3 : Int).toNat (rd_L1 x7_3 x9_23)) := ⟨_, rfl⟩
                   replace H : (if x8_3 < ((rd_L1 y351 x8_3).length : Int) then ((spec_InvG.f kj23 (rd (rd_L1 y351 x8_3) x8_3)).bind fun t358 => ((spec_l06Times.f kj23 (rd_L1 y351 x8_3) t358).bind fun t360 => ((spec_l06Times.f kj23 (rd_L1 y355 x8_3) t358).bind fun t365 => (spec_InvM.l3 kj23 (l0.length : Int) (y351.set (x8_3 : Int).toNat t360) (y355.set (x8_3 : Int).toNat t365) x8_3 0)))) else (none)) = some (r1, r2) := by first | (rw [hy355]; with_reducible exact H) | (have H2_ := (Option.bind_some _ _).symm.trans H; rw [hy355]; with_reducible exact H2_) | (have H2_ := (Option.bind_some _ _).symm.trans H; with_reducible exact H2_) | with_reducible exact H | (rw [hy355]; exact H) | exact H
                   have Ny355 := Aside0.mk hy355
                   clear hy355
                   by_cases c46 : x8_3 < ((rd_L1 y351 x8_3).length : Int)
                   ·rw [if_pos c46] at H
                    have c46b0 : decide (x8_3 < ((rd_L1 y351 x8_3).length : Int)) = true := decide_eq_true c46
                    clear c46
                    replace H := Option.bind_eq_some_iff.mp H
                    obtain ⟨t358, A470, H⟩ := H
                    replace H : ((spec_l06Times.f kj23 (rd_L1 y351 x8_3) t358).bind fun t360 => ((spec_l06Times.f kj23 (rd_L1 y355 x8_3) t358).bind fun t365 => (spec_InvM.l3 kj23 (l0.length : Int) (y351.set (x8_3 : Int).toNat t360) (y355.set (x8_3 : Int).toNat t365) x8_3 0))) = some (r1, r2) := H
                    have A47 := Aside0.mk A470
                    clear A470
                    replace H := Option.bind_eq_some_iff.mp H
                    obtain ⟨t360, A480, H⟩ := H
                    replace H : ((spec_l06Times.f kj23 (rd_L1 y355 x8_3) t358).bind fun t365 => (spec_InvM.l3 kj23 (l0.length : Int) (y351.set (x8_3 : Int).toNat t360) (y355.set (x8_3 : Int).toNat t365) x8_3 0)) = some (r1, r2) := H
                    have A48 := Aside0.mk A480
                    clear A480
                    obtain ⟨y363, hy363⟩ : ∃ y_ : List (List Int), y_ = (y351.set (x8_3 : Int).toNat t360) := ⟨_, rfl⟩
                    replace H : ((spec_l06Times.f kj23 (rd_L1 y355 x8_3) t358).bind fun t365 => (spec_InvM.l3 kj23 (l0.length : Int) y363 (y355.set (x8_3 : Int).toNat t365) x8_3 0)) = some (r1, r2) := by first | (rw [hy363]; with_reducible exact H) | (have H2_ := (Option.bind_some _ _).symm.trans H; rw [hy363]; with_reducible exact H2_) | (have H2_ := (Option.bind_some _ _).symm.trans H; with_reducible exact H2_) | with_reducible exact H | (rw [hy363]; exact H) | exact H
                    have Ny363 := Aside0.mk hy363
                    clear hy363
                    replace H := Option.bind_eq_some_iff.mp H
                    obtain ⟨t365, A500, H⟩ := H
                    replace H : (spec_InvM.l3 kj23 (l0.length : Int) y363 (y355.set (x8_3 : Int).toNat t365) x8_3 0) = some (r1, r2) := H
                    have A50 := Aside0.mk A500
                    clear A500
                    obtain ⟨y368, hy368⟩ : ∃ y_ : List (List Int), y_ = (y355.set (x8_3 : Int).toNat t365) := ⟨_, rfl⟩
                    replace H : (spec_InvM.l3 kj23 (l0.length : Int) y363 y368 x8_3 0) = some (r1, r2) := by first | (rw [hy368]; with_reducible exact H) | (have H2_ := (Option.bind_some _ _).symm.trans H; rw [hy368]; with_reducible exact H2_) | (have H2_ := (Option.bind_some _ _).symm.trans H; with_reducible exact H2_) | with_reducible exact H | (rw [hy368]; exact H) | exact H
                    have Ny368 := Aside0.mk hy368
                    clear hy368
                    have H' := Aside0.mk H
                    clear H
                    obtain ⟨Ao52, co52, eo52⟩ := Kd.N_slice HO_5.out
                    subst eo52
                    have p348 : 0 ≤ (x9_23 : Int) := of_decide_eq_true (by assumption)
                    have q348 : x9_23 < (x5_3.length : Int) := of_decide_eq_true (by assumption)
                    obtain ⟨ad348, A348_0, c348_0, e348, hx348_0, hl348_0, hi348_0⟩ := at_L1 (Kd.N_reads' HO_5.out).2.2 x9_23 p348 q348
                    cases e348
                    obtain ⟨ce348, hce348, hMe348, hcc348⟩ := Kd.N_get HO_5.out [] x9_23 p348 (by first | exact q348 | exact of_decide_eq_true (by assumption) | (have e_ := (Kd.N_reads' HO_5.out).1; omega))
                    obtain ⟨ua348_0, uc348_0, rfl, ul348_0, ge348_0⟩ := Kd.FK_slice_open hMe348
                    have hv348_0 := hcc348 0 _ rfl
                    rw [Nat.add_zero, show ((Kd.slice 3 (Kd.int .i64))).sz = 1 from rfl, Nat.mul_one] at hv348_0
                    replace hv348_0 := Option.some.inj (hv348_0.symm.trans hx348_0)
                    injection hv348_0 with hva_ hvn_ hvc_
                    rw [hva_] at ge348_0
                    rw [hvc_] at ul348_0
                    have HL348_0 := Aside0.mk (show Kd.V (Kd.int .i64) 3 _ w.heap.size _ _ (rd_L1 x5_3 x9_23) from Kd.V_mk ul348_0 ge348_0)
                    clear hva_ hvn_ hvc_ ge348_0 ul348_0
                    clear hcc348 hce348
                    have HR348_0 := Aside0.mk hi348_0
                    have HC348_0 := Aside0.mk hl348_0
                    clear hi348_0 hl348_0
                    replace p348 := eq_true p348
                    replace q348 := eq_true q348
                    have p349 : 0 ≤ (x8_3 : Int) := of_decide_eq_true (by assumption)
                    have q349 : x8_3 < (x5_3.length : Int) := of_decide_eq_true (by assumption)
                    obtain ⟨ad349, A349_0, c349_0, e349, hx349_0, hl349_0, hi349_0⟩ := at_L1 (Kd.N_reads' HO_5.out).2.2 x8_3 p349 q349
                    obtain rfl : ad348 = ad349 := (by injection e349)
                    obtain ⟨ce349, hce349, hMe349, hcc349⟩ := Kd.N_get HO_5.out [] x8_3 p349 (by first | exact q349 | exact of_decide_eq_true (by assumption) | (have e_ := (Kd.N_reads' HO_5.out).1; omega))
                    obtain ⟨ua349_0, uc349_0, rfl, ul349_0, ge349_0⟩ := Kd.FK_slice_open hMe349
                    have hv349_0 := hcc349 0 _ rfl
                    rw [Nat.add_zero, show ((Kd.slice 3 (Kd.int .i64))).sz = 1 from rfl, Nat.mul_one] at hv349_0
                    replace hv349_0 := Option.some.inj (hv349_0.symm.trans hx349_0)
                    injection hv349_0 with hva_ hvn_ hvc_
                    rw [hva_] at ge349_0
                    rw [hvc_] at ul349_0
                    have HL349_0 := Aside0.mk (show Kd.V (Kd.int .i64) 3 _ w.heap.size _ _ (rd_L1 x5_3 x8_3) from Kd.V_mk ul349_0 ge349_0)
                    clear hva_ hvn_ hvc_ ge349_0 ul349_0
                    clear hcc349 hce349
                    have HR349_0 := Aside0.mk hi349_0
                    have HC349_0 := Aside0.mk hl349_0
                    clear hi349_0 hl349_0
                    replace p349 := eq_true p349
                    replace q349 := eq_true q349
                    have p40 : 0 ≤ (x9_23 : Int) := of_decide_eq_true (by assumption)
                    have q40 : (x9_23 : Int) < ((x5_3.length : Int) : Int) := of_decide_eq_true (by assumption)
                    obtain ⟨go40, co40, eo40, gb40, gl40, cl40, HG40⟩ := Kd.N_form HO_5.out (by omega)
                    (first | cases eo40 | (injection eo40 with ea_ en_ ec_; (first | subst ea_ | (injection ea_ with ea_; subst ea_)); subst ec_; clear en_))
                    have GB40 := Aside0.mk gb40
                    have GG40 := Aside0.mk HG40
                    clear gb40 gl40 HG40
                    (first | simp only [add_plain] at hx348_0 | skip)
                    (first | simp only [add_plain] at hx349_0 | skip)
                    obtain ⟨ce40, hcl40, hM40, hcc40, hfr40⟩ := Kd.N_elem HO_5.out [] (x9_23 : Int) p40 q40
                    obtain ⟨ua40_0, uc40_0, rfl, ul40_0, ge40_0⟩ := Kd.FK_slice_open hM40
                    have hx40_0 := hcc40 0 _ rfl
                    have hf40_0 := hfr40 0
                    (try simp only [show ((Kd.slice 3 (Kd.int .i64))).sz = 1 from rfl, Nat.mul_one, Nat.add_zero] at hx40_0)
                    (try simp only [show ((Kd.slice 3 (Kd.int .i64))).sz = 1 from rfl, Nat.mul_one, Nat.add_zero] at hf40_0)
                    (try clear hM40); clear hcl40 hcc40 hfr40
                    replace p40 := eq_true p40
                    replace q40 := eq_true q40
                    have HX53 := Aside0.mk (show Kd.N (Kd.slice 3 (Kd.int .i64)) 32 wc w.heap.size (fun k_ => (w.heap.size ≤ k_) ∧ some k_ ≠ (v341 : Value).ownBlock) (.slice (some ⟨go40, 0, none⟩) x5_3.length co52) x5_3 from (by exact HO_5.out))
                    obtain ⟨ce53, hcl53, hM53, hcc53, hfr53⟩ := Kd.N_elem HX53.out [] (x9_23 : Int) (of_decide_eq_true (by assumption)) (by have h_ : (x9_23 : Int) < ((x5_3.length : Int) : Int) := of_decide_eq_true (by assumption); first | exact h_ | (have e_ := (Kd.N_reads' HO_5.out).1; omega) | simpa using h_)
                    obtain ⟨ua53_0, uc53_0, rfl, ul53_0, ge53_0⟩ := Kd.FK_slice_open hM53
                    have HP53 := Kd.N_seg HX53.out (x9_23 : Int) (of_decide_eq_true (by assumption)) (by have h_ : (x9_23 : Int) < ((x5_3.length : Int) : Int) := of_decide_eq_true (by assumption); first | exact h_ | (have e_ := (Kd.N_reads' HO_5.out).1; omega) | simpa using h_) (seg := [.slice A349_0 (rd_L1 x5_3 x8_3).length c349_0]) (j := 0) hcl53 hcc53 (show 1 ≤ 1 from by decide) (x' := rd_L1 x5_3 x8_3) (Kd.FK_slice_mk (Kd.V_reads' (Kd.V_mono (ok' := (fun k_ => ((fun k_ => (w.heap.size ≤ k_) ∧ some k_ ≠ (v341 : Value).ownBlock)) k_ ∧ k_ ≠ go40)) (HL349_0.out) (fun k_ hk => ⟨⟨hk.1.1, hk.1.2⟩, fun e_ => (hk.2) (by rw [e_]; rfl)⟩))).2.1 (Kd.V_F (Kd.V_mono (ok' := (fun k_ => ((fun k_ => (w.heap.size ≤ k_) ∧ some k_ ≠ (v341 : Value).ownBlock)) k_ ∧ k_ ≠ go40)) (HL349_0.out) (fun k_ hk => ⟨⟨hk.1.1, hk.1.2⟩, fun e_ => (hk.2) (by rw [e_]; rfl)⟩)))) (fun _ hk => hk)
                    have hx53_0 := hcc53 0 _ rfl
                    (try simp only [show ((Kd.slice 3 (Kd.int .i64))).sz = 1 from rfl, Nat.mul_one, Nat.add_zero] at hx53_0)
                    have hf53_0 := hfr53 0
                    (try simp only [show ((Kd.slice 3 (Kd.int .i64))).sz = 1 from rfl, Nat.mul_one, Nat.add_zero] at hf53_0)
                    (try clear hM53); clear hcl53 hcc53 hfr53
                    (try simp only [show ((Kd.slice 3 (Kd.int .i64))).sz = 1 from rfl, Nat.mul_one, Nat.add_zero] at HP53)
                    (try simp only [show ((Kd.slice 3 (Kd.int .i64))).sz = 1 from rfl, Nat.mul_one, Nat.add_zero] at HP53)
                    go_wp2_with (first | ((with_reducible refine gate_store (t := 32) (p := 82) rfl ?_); refine store_event (t := 32) (p := 82) (v := ?vo_w54) (w1 := (wc.setCell ⟨go40, (x9_23 : Int).toNat, none⟩ (.slice A349_0 (rd_L1 x5_3 x8_3).length c349_0))) ?hg ?ho ?hn ?hr ?_; (case ho => rfl); (case hg => rfl); (case hn => rfl); (case hr => first | (go_simp; done) | (go_simp; rfl)); intro w54 hw; have hg : wc.grownBy w54 (some go40) := (by rw [hw]; exact HP53.2); have hp_ : Kd.N (Kd.slice 3 (Kd.int .i64)) 32 w54 w.heap.size (fun k_ => (w.heap.size ≤ k_) ∧ some k_ ≠ (v341 : Value).ownBlock) (.slice (some ⟨go40, 0, none⟩) x5_3.length co52) y350 := (by rw [hw, Ny350.out]; exact HP53.1); clear HP53; have n0_ := Aside0.mk (hp_); have n1_ := Aside0.mk (Kd.N_afterv (v := (.slice (some ⟨go40, 0, none⟩) x5_3.length co52)) (v1 := (.slice (some ⟨go40, 0, none⟩) x5_3.length co52)) (ok := (fun k_ => (w.heap.size ≤ k_))) (by exact HO_7.out) hg (.inl rfl)); have n2_ := Aside0.mk (Kd.V_afterv (v := (.slice (some ⟨go40, 0, none⟩) x5_3.length co52)) (v1 := (.slice (some ⟨go40, 0, none⟩) x5_3.length co52)) (ok := (fun k_ => (w.heap.size ≤ k_) ∧ some k_ ≠ (v341 : Value).ownBlock)) (by exact HL348_0.out) hg (.inl rfl)); have n3_ := Aside0.mk (Kd.V_afterv (v := (.slice (some ⟨go40, 0, none⟩) x5_3.length co52)) (v1 := (.slice (some ⟨go40, 0, none⟩) x5_3.length co52)) (ok := (fun k_ => (w.heap.size ≤ k_) ∧ some k_ ≠ (v341 : Value).ownBlock)) (by exact HL349_0.out) hg (.inl rfl)); have n4_ := Aside0.mk ((by rw [hw]; exact below_set (HB.out) GB40.out : Below w.heap.size w w54)); clear HO_5; clear HO_7; clear HL348_0; clear HL349_0; clear HB; have HO_5 := n0_; have HO_7 := n1_; have HL348_0 := n2_; have HL349_0 := n3_; have HB := n4_; clear n0_ n1_ n2_ n3_ n4_; clear hg hw hp_; have p41 : 0 ≤ (x8_3 : Int) := of_decide_eq_true (by assumption); have q41 : (x8_3 : Int) < ((x5_3.length : Int) : Int) := of_decide_eq_true (by assumption); obtain ⟨ce41, hcl41, hM41, hcc41, hfr41⟩ := Kd.N_elem HO_5.out [] (x8_3 : Int) p41 q41; obtain ⟨ua41_0, uc41_0, rfl, ul41_0, ge41_0⟩ := Kd.FK_slice_open hM41; have hx41_0 := hcc41 0 _ rfl; have hf41_0 := hfr41 0; (try simp only [show ((Kd.slice 3 (Kd.int .i64))).sz = 1 from rfl, Nat.mul_one, Nat.add_zero] at hx41_0); (try simp only [show ((Kd.slice 3 (Kd.int .i64))).sz = 1 from rfl, Nat.mul_one, Nat.add_zero] at hf41_0); (try clear hM41); clear hcl41 hcc41 hfr41; replace p41 := eq_true p41; replace q41 := eq_true q41; have HX55 := Aside0.mk (show Kd.N (Kd.slice 3 (Kd.int .i64)) 32 w54 w.heap.size (fun k_ => (w.heap.size ≤ k_) ∧ some k_ ≠ (v341 : Value).ownBlock) (.slice (some ⟨go40, 0, none⟩) x5_3.length co52) y350 from (by exact HO_5.out)); obtain ⟨ce55, hcl55, hM55, hcc55, hfr55⟩ := Kd.N_elem HX55.out [] (x8_3 : Int) (of_decide_eq_true (by assumption)) (by have h_ : (x8_3 : Int) < ((x5_3.length : Int) : Int) := of_decide_eq_true (by assumption); first | exact h_ | (have e_ := (Kd.N_reads' HO_5.out).1; omega) | simpa using h_); obtain ⟨ua55_0, uc55_0, rfl, ul55_0, ge55_0⟩ := Kd.FK_slice_open hM55; have HP55 := Kd.N_seg HX55.out (x8_3 : Int) (of_decide_eq_true (by assumption)) (by have h_ : (x8_3 : Int) < ((x5_3.length : Int) : Int) := of_decide_eq_true (by assumption); first | exact h_ | (have e_ := (Kd.N_reads' HO_5.out).1; omega) | simpa using h_) (seg := [.slice A348_0 (rd_L1 x5_3 x9_23).length c348_0]) (j := 0) hcl55 hcc55 (show 1 ≤ 1 from by decide) (x' := rd_L1 x5_3 x9_23) (Kd.FK_slice_mk (Kd.V_reads' (Kd.V_mono (ok' := (fun k_ => ((fun k_ => (w.heap.size ≤ k_) ∧ some k_ ≠ (v341 : Value).ownBlock)) k_ ∧ k_ ≠ go40)) (HL348_0.out) (fun k_ hk => ⟨⟨hk.1.1, hk.1.2⟩, fun e_ => (hk.2) (by rw [e_]; rfl)⟩))).2.1 (Kd.V_F (Kd.V_mono (ok' := (fun k_ => ((fun k_ => (w.heap.size ≤ k_) ∧ some k_ ≠ (v341 : Value).ownBlock)) k_ ∧ k_ ≠ go40)) (HL348_0.out) (fun k_ hk => ⟨⟨hk.1.1, hk.1.2⟩, fun e_ => (hk.2) (by rw [e_]; rfl)⟩)))) (fun _ hk => hk); have hx55_0 := hcc55 0 _ rfl; (try simp only [show ((Kd.slice 3 (Kd.int .i64))).sz = 1 from rfl, Nat.mul_one, Nat.add_zero] at hx55_0); have hf55_0 := hfr55 0; (try simp only [show ((Kd.slice 3 (Kd.int .i64))).sz = 1 from rfl, Nat.mul_one, Nat.add_zero] at hf55_0); (try clear hM55); clear hcl55 hcc55 hfr55; (try simp only [show ((Kd.slice 3 (Kd.int .i64))).sz = 1 from rfl, Nat.mul_one, Nat.add_zero] at HP55); (try simp only [show ((Kd.slice 3 (Kd.int .i64))).sz = 1 from rfl, Nat.mul_one, Nat.add_zero] at HP55)) | ((with_reducible refine gate_store (t := 32) (p := 86) rfl ?_); refine store_event (t := 32) (p := 86) (v := ?vo_w56) (w1 := (w54.setCell ⟨go40, (x8_3 : Int).toNat, none⟩ (.slice A348_0 (rd_L1 x5_3 x9_23).length c348_0))) ?hg ?ho ?hn ?hr ?_; (case ho => rfl); (case hg => rfl); (case hn => rfl); (case hr => first | (go_simp; done) | (go_simp; rfl)); intro w56 hw; have hg : w54.grownBy w56 (some go40) := (by rw [hw]; exact HP55.2); have hp_ : Kd.N (Kd.slice 3 (Kd.int .i64)) 32 w56 w.heap.size (fun k_ => (w.heap.size ≤ k_) ∧ some k_ ≠ (v341 : Value).ownBlock) (.slice (some ⟨go40, 0, none⟩) x5_3.length co52) y351 := (by rw [hw, Ny351.out]; exact HP55.1); clear HP55; have n0_ := Aside0.mk (hp_); have n1_ := Aside0.mk (Kd.N_afterv (v := (.slice (some ⟨go40, 0, none⟩) x5_3.length co52)) (v1 := (.slice (some ⟨go40, 0, none⟩) x5_3.length co52)) (ok := (fun k_ => (w.heap.size ≤ k_))) (by exact HO_7.out) hg (.inl rfl)); have n2_ := Aside0.mk (Kd.V_afterv (v := (.slice (some ⟨go40, 0, none⟩) x5_3.length co52)) (v1 := (.slice (some ⟨go40, 0, none⟩) x5_3.length co52)) (ok := (fun k_ => (w.heap.size ≤ k_) ∧ some k_ ≠ (v341 : Value).ownBlock)) (by exact HL348_0.out) hg (.inl rfl)); have n3_ := Aside0.mk (Kd.V_afterv (v := (.slice (some ⟨go40, 0, none⟩) x5_3.length co52)) (v1 := (.slice (some ⟨go40, 0, none⟩) x5_3.length co52)) (ok := (fun k_ => (w.heap.size ≤ k_) ∧ some k_ ≠ (v341 : Value).ownBlock)) (by exact HL349_0.out) hg (.inl rfl)); have n4_ := Aside0.mk ((by rw [hw]; exact below_set (HB.out) GB40.out : Below w.heap.size w w56)); clear HO_5; clear HO_7; clear HL348_0; clear HL349_0; clear HB; have HO_5 := n0_; have HO_7 := n1_; have HL348_0 := n2_; have HL349_0 := n3_; have HB := n4_; clear n0_ n1_ n2_ n3_ n4_; clear hg hw hp_; obtain ⟨Ao57, co57, eo57⟩ := Kd.N_slice HO_7.out; subst eo57; have p352 : 0 ≤ (x9_23 : Int) := of_decide_eq_true (by assumption); have q352 : x9_23 < (x7_3.length : Int) := of_decide_eq_true (by assumption); obtain ⟨ad352, A352_0, c352_0, e352, hx352_0, hl352_0, hi352_0⟩ := at_L1 (Kd.N_reads' HO_7.out).2.2 x9_23 p352 q352; cases e352; obtain ⟨ce352, hce352, hMe352, hcc352⟩ := Kd.N_get HO_7.out [] x9_23 p352 (by first | exact q352 | exact of_decide_eq_true (by assumption) | (have e_ := (Kd.N_reads' HO_7.out).1; omega)); obtain ⟨ua352_0, uc352_0, rfl, ul352_0, ge352_0⟩ := Kd.FK_slice_open hMe352; have hv352_0 := hcc352 0 _ rfl; rw [Nat.add_zero, show ((Kd.slice 3 (Kd.int .i64))).sz = 1 from rfl, Nat.mul_one] at hv352_0; replace hv352_0 := Option.some.inj (hv352_0.symm.trans hx352_0); injection hv352_0 with hva_ hvn_ hvc_; rw [hva_] at ge352_0; rw [hvc_] at ul352_0; have HL352_0 := Aside0.mk (show Kd.V (Kd.int .i64) 3 _ w.heap.size _ _ (rd_L1 x7_3 x9_23) from Kd.V_mk ul352_0 ge352_0); clear hva_ hvn_ hvc_ ge352_0 ul352_0; clear hcc352 hce352; have HR352_0 := Aside0.mk hi352_0; have HC352_0 := Aside0.mk hl352_0; clear hi352_0 hl352_0; replace p352 := eq_true p352; replace q352 := eq_true q352; have p353 : 0 ≤ (x8_3 : Int) := of_decide_eq_true (by assumption); have q353 : x8_3 < (x7_3.length : Int) := of_decide_eq_true (by assumption); obtain ⟨ad353, A353_0, c353_0, e353, hx353_0, hl353_0, hi353_0⟩ := at_L1 (Kd.N_reads' HO_7.out).2.2 x8_3 p353 q353; obtain rfl : ad352 = ad353 := (by injection e353); obtain ⟨ce353, hce353, hMe353, hcc353⟩ := Kd.N_get HO_7.out [] x8_3 p353 (by first | exact q353 | exact of_decide_eq_true (by assumption) | (have e_ := (Kd.N_reads' HO_7.out).1; omega)); obtain ⟨ua353_0, uc353_0, rfl, ul353_0, ge353_0⟩ := Kd.FK_slice_open hMe353; have hv353_0 := hcc353 0 _ rfl; rw [Nat.add_zero, show ((Kd.slice 3 (Kd.int .i64))).sz = 1 from rfl, Nat.mul_one] at hv353_0; replace hv353_0 := Option.some.inj (hv353_0.symm.trans hx353_0); injection hv353_0 with hva_ hvn_ hvc_; rw [hva_] at ge353_0; rw [hvc_] at ul353_0; have HL353_0 := Aside0.mk (show Kd.V (Kd.int .i64) 3 _ w.heap.size _ _ (rd_L1 x7_3 x8_3) from Kd.V_mk ul353_0 ge353_0); clear hva_ hvn_ hvc_ ge353_0 ul353_0; clear hcc353 hce353; have HR353_0 := Aside0.mk hi353_0; have HC353_0 := Aside0.mk hl353_0; clear hi353_0 hl353_0; replace p353 := eq_true p353; replace q353 := eq_true q353; have p44 : 0 ≤ (x9_23 : Int) := of_decide_eq_true (by assumption); have q44 : (x9_23 : Int) < ((x7_3.length : Int) : Int) := of_decide_eq_true (by assumption); obtain ⟨go44, co44, eo44, gb44, gl44, cl44, HG44⟩ := Kd.N_form HO_7.out (by omega); (first | cases eo44 | (injection eo44 with ea_ en_ ec_; (first | subst ea_ | (injection ea_ with ea_; subst ea_)); subst ec_; clear en_)); have GB44 := Aside0.mk gb44; have GG44 := Aside0.mk HG44; clear gb44 gl44 HG44; (first | simp only [add_plain] at hx352_0 | skip); (first | simp only [add_plain] at hx353_0 | skip); obtain ⟨ce44, hcl44, hM44, hcc44, hfr44⟩ := Kd.N_elem HO_7.out [] (x9_23 : Int) p44 q44; obtain ⟨ua44_0, uc44_0, rfl, ul44_0, ge44_0⟩ := Kd.FK_slice_open hM44; have hx44_0 := hcc44 0 _ rfl; have hf44_0 := hfr44 0; (try simp only [show ((Kd.slice 3 (Kd.int .i64))).sz = 1 from rfl, Nat.mul_one, Nat.add_zero] at hx44_0); (try simp only [show ((Kd.slice 3 (Kd.int .i64))).sz = 1 from rfl, Nat.mul_one, Nat.add_zero] at hf44_0); (try clear hM44); clear hcl44 hcc44 hfr44; replace p44 := eq_true p44; replace q44 := eq_true q44; have HX58 := Aside0.mk (show Kd.N (Kd.slice 3 (Kd.int .i64)) 32 w56 w.heap.size (fun k_ => (w.heap.size ≤ k_) ∧ some k_ ≠ (.slice (some ⟨go40, 0, none⟩) x5_3.length co52 : Value).ownBlock) (.slice (some ⟨go44, 0, none⟩) x7_3.length co57) x7_3 from (by exact HO_7.out)); obtain ⟨ce58, hcl58, hM58, hcc58, hfr58⟩ := Kd.N_elem HX58.out [] (x9_23 : Int) (of_decide_eq_true (by assumption)) (by have h_ : (x9_23 : Int) < ((x7_3.length : Int) : Int) := of_decide_eq_true (by assumption); first | exact h_ | (have e_ := (Kd.N_reads' HO_7.out).1; omega) | simpa using h_); obtain ⟨ua58_0, uc58_0, rfl, ul58_0, ge58_0⟩ := Kd.FK_slice_open hM58; have HP58 := Kd.N_seg HX58.out (x9_23 : Int) (of_decide_eq_true (by assumption)) (by have h_ : (x9_23 : Int) < ((x7_3.length : Int) : Int) := of_decide_eq_true (by assumption); first | exact h_ | (have e_ := (Kd.N_reads' HO_7.out).1; omega) | simpa using h_) (seg := [.slice A353_0 (rd_L1 x7_3 x8_3).length c353_0]) (j := 0) hcl58 hcc58 (show 1 ≤ 1 from by decide) (x' := rd_L1 x7_3 x8_3) (Kd.FK_slice_mk (Kd.V_reads' (Kd.V_mono (ok' := (fun k_ => ((fun k_ => (w.heap.size ≤ k_) ∧ some k_ ≠ (.slice (some ⟨go40, 0, none⟩) x5_3.length co52 : Value).ownBlock)) k_ ∧ k_ ≠ go44)) (HL353_0.out) (fun k_ hk => ⟨⟨hk.1.1, hk.1.2⟩, fun e_ => (hk.2) (by rw [e_]; rfl)⟩))).2.1 (Kd.V_F (Kd.V_mono (ok' := (fun k_ => ((fun k_ => (w.heap.size ≤ k_) ∧ some k_ ≠ (.slice (some ⟨go40, 0, none⟩) x5_3.length co52 : Value).ownBlock)) k_ ∧ k_ ≠ go44)) (HL353_0.out) (fun k_ hk => ⟨⟨hk.1.1, hk.1.2⟩, fun e_ => (hk.2) (by rw [e_]; rfl)⟩)))) (fun _ hk => hk); have hx58_0 := hcc58 0 _ rfl; (try simp only [show ((Kd.slice 3 (Kd.int .i64))).sz = 1 from rfl, Nat.mul_one, Nat.add_zero] at hx58_0); have hf58_0 := hfr58 0; (try simp only [show ((Kd.slice 3 (Kd.int .i64))).sz = 1 from rfl, Nat.mul_one, Nat.add_zero] at hf58_0); (try clear hM58); clear hcl58 hcc58 hfr58; (try simp only [show ((Kd.slice 3 (Kd.int .i64))).sz = 1 from rfl, Nat.mul_one, Nat.add_zero] at HP58); (try simp only [show ((Kd.slice 3 (Kd.int .i64))).sz = 1 from rfl, Nat.mul_one, Nat.add_zero] at HP58)) | ((with_reducible refine gate_store (t := 32) (p := 97) rfl ?_); refine store_event (t := 32) (p := 97) (v := ?vo_w59) (w1 := (w56.setCell ⟨go44, (x9_23 : Int).toNat, none⟩ (.slice A353_0 (rd_L1 x7_3 x8_3).length c353_0))) ?hg ?ho ?hn ?hr ?_; (case ho => rfl); (case hg => rfl); (case hn => rfl); (case hr => first | (go_simp; done) | (go_simp; rfl)); intro w59 hw; have hg : w56.grownBy w59 (some go44) := (by rw [hw]; exact HP58.2); have hp_ : Kd.N (Kd.slice 3 (Kd.int .i64)) 32 w59 w.heap.size (fun k_ => (w.heap.size ≤ k_) ∧ some k_ ≠ (.slice (some ⟨go40, 0, none⟩) x5_3.length co52 : Value).ownBlock) (.slice (some ⟨go44, 0, none⟩) x7_3.length co57) y354 := (by rw [hw, Ny354.out]; exact HP58.1); clear HP58; have n0_ := Aside0.mk (Kd.N_afterv (v := (.slice (some ⟨go44, 0, none⟩) x7_3.length co57)) (v1 := (.slice (some ⟨go44, 0, none⟩) x7_3.length co57)) (ok := (fun k_ => (w.heap.size ≤ k_))) (by exact HO_5.out) hg (.inl rfl)); have n1_ := Aside0.mk (hp_); have n2_ := Aside0.mk (Kd.V_afterv (v := (.slice (some ⟨go44, 0, none⟩) x7_3.length co57)) (v1 := (.slice (some ⟨go44, 0, none⟩) x7_3.length co57)) (ok := (fun k_ => (w.heap.size ≤ k_) ∧ some k_ ≠ (.slice (some ⟨go40, 0, none⟩) x5_3.length co52 : Value).ownBlock)) (by exact Kd.V_mono HL348_0.out (fun _ hk => by first | exact ⟨⟨hk.1.1, hk.2⟩, hk.1.2⟩ | (repeat' (first | exact hk.1 | exact hk.2 | exact hk.1.1 | exact hk.1.2 | exact hk.2.1 | exact hk.2.2 | exact hk.1.1.1 | exact hk.1.1.2 | exact hk.1.2.1 | exact hk.1.2.2 | exact hk.2.1.1 | exact hk.2.1.2 | exact hk.2.2.1 | exact hk.2.2.2 | exact hk.1.1.1.1 | exact hk.1.1.1.2 | exact hk.1.1.2.1 | exact hk.1.1.2.2 | exact hk.1.2.1.1 | exact hk.1.2.1.2 | exact hk.1.2.2.1 | exact hk.1.2.2.2 | exact hk.2.1.1.1 | exact hk.2.1.1.2 | exact hk.2.1.2.1 | exact hk.2.1.2.2 | exact hk.2.2.1.1 | exact hk.2.2.1.2 | exact hk.2.2.2.1 | exact hk.2.2.2.2 | constructor)))) hg (.inl rfl)); have n3_ := Aside0.mk (Kd.V_afterv (v := (.slice (some ⟨go44, 0, none⟩) x7_3.length co57)) (v1 := (.slice (some ⟨go44, 0, none⟩) x7_3.length co57)) (ok := (fun k_ => (w.heap.size ≤ k_) ∧ some k_ ≠ (.slice (some ⟨go40, 0, none⟩) x5_3.length co52 : Value).ownBlock)) (by exact Kd.V_mono HL349_0.out (fun _ hk => by first | exact ⟨⟨hk.1.1, hk.2⟩, hk.1.2⟩ | (repeat' (first | exact hk.1 | exact hk.2 | exact hk.1.1 | exact hk.1.2 | exact hk.2.1 | exact hk.2.2 | exact hk.1.1.1 | exact hk.1.1.2 | exact hk.1.2.1 | exact hk.1.2.2 | exact hk.2.1.1 | exact hk.2.1.2 | exact hk.2.2.1 | exact hk.2.2.2 | exact hk.1.1.1.1 | exact hk.1.1.1.2 | exact hk.1.1.2.1 | exact hk.1.1.2.2 | exact hk.1.2.1.1 | exact hk.1.2.1.2 | exact hk.1.2.2.1 | exact hk.1.2.2.2 | exact hk.2.1.1.1 | exact hk.2.1.1.2 | exact hk.2.1.2.1 | exact hk.2.1.2.2 | exact hk.2.2.1.1 | exact hk.2.2.1.2 | exact hk.2.2.2.1 | exact hk.2.2.2.2 | constructor)))) hg (.inl rfl)); have n4_ := Aside0.mk (Kd.V_afterv (v := (.slice (some ⟨go44, 0, none⟩) x7_3.length co57)) (v1 := (.slice (some ⟨go44, 0, none⟩) x7_3.length co57)) (ok := (fun k_ => (w.heap.size ≤ k_) ∧ some k_ ≠ (.slice (some ⟨go40, 0, none⟩) x5_3.length co52 : Value).ownBlock)) (by exact HL352_0.out) hg (.inl rfl)); have n5_ := Aside0.mk (Kd.V_afterv (v := (.slice (some ⟨go44, 0, none⟩) x7_3.length co57)) (v1 := (.slice (some ⟨go44, 0, none⟩) x7_3.length co57)) (ok := (fun k_ => (w.heap.size ≤ k_) ∧ some k_ ≠ (.slice (some ⟨go40, 0, none⟩) x5_3.length co52 : Value).ownBlock)) (by exact HL353_0.out) hg (.inl rfl)); have n6_ := Aside0.mk ((by rw [hw]; exact below_set (HB.out) GB44.out : Below w.heap.size w w59)); clear HO_5; clear HO_7; clear HL348_0; clear HL349_0; clear HL352_0; clear HL353_0; clear HB; have HO_5 := n0_; have HO_7 := n1_; have HL348_0 := n2_; have HL349_0 := n3_; have HL352_0 := n4_; have HL353_0 := n5_; have HB := n6_; clear n0_ n1_ n2_ n3_ n4_ n5_ n6_; clear hg hw hp_; have p45 : 0 ≤ (x8_3 : Int) := of_decide_eq_true (by assumption); have q45 : (x8_3 : Int) < ((x7_3.length : Int) : Int) := of_decide_eq_true (by assumption); obtain ⟨ce45, hcl45, hM45, hcc45, hfr45⟩ := Kd.N_elem HO_7.out [] (x8_3 : Int) p45 q45; obtain ⟨ua45_0, uc45_0, rfl, ul45_0, ge45_0⟩ := Kd.FK_slice_open hM45; have hx45_0 := hcc45 0 _ rfl; have hf45_0 := hfr45 0; (try simp only [show ((Kd.slice 3 (Kd.int .i64))).sz = 1 from rfl, Nat.mul_one, Nat.add_zero] at hx45_0); (try simp only [show ((Kd.slice 3 (Kd.int .i64))).sz = 1 from rfl, Nat.mul_one, Nat.add_zero] at hf45_0); (try clear hM45); clear hcl45 hcc45 hfr45; replace p45 := eq_true p45; replace q45 := eq_true q45; have HX60 := Aside0.mk (show Kd.N (Kd.slice 3 (Kd.int .i64)) 32 w59 w.heap.size (fun k_ => (w.heap.size ≤ k_) ∧ some k_ ≠ (.slice (some ⟨go40, 0, none⟩) x5_3.length co52 : Value).ownBlock) (.slice (some ⟨go44, 0, none⟩) x7_3.length co57) y354 from (by exact HO_7.out)); obtain ⟨ce60, hcl60, hM60, hcc60, hfr60⟩ := Kd.N_elem HX60.out [] (x8_3 : Int) (of_decide_eq_true (by assumption)) (by have h_ : (x8_3 : Int) < ((x7_3.length : Int) : Int) := of_decide_eq_true (by assumption); first | exact h_ | (have e_ := (Kd.N_reads' HO_7.out).1; omega) | simpa using h_); obtain ⟨ua60_0, uc60_0, rfl, ul60_0, ge60_0⟩ := Kd.FK_slice_open hM60; have HP60 := Kd.N_seg HX60.out (x8_3 : Int) (of_decide_eq_true (by assumption)) (by have h_ : (x8_3 : Int) < ((x7_3.length : Int) : Int) := of_decide_eq_true (by assumption); first | exact h_ | (have e_ := (Kd.N_reads' HO_7.out).1; omega) | simpa using h_) (seg := [.slice A352_0 (rd_L1 x7_3 x9_23).length c352_0]) (j := 0) hcl60 hcc60 (show 1 ≤ 1 from by decide) (x' := rd_L1 x7_3 x9_23) (Kd.FK_slice_mk (Kd.V_reads' (Kd.V_mono (ok' := (fun k_ => ((fun k_ => (w.heap.size ≤ k_) ∧ some k_ ≠ (.slice (some ⟨go40, 0, none⟩) x5_3.length co52 : Value).ownBlock)) k_ ∧ k_ ≠ go44)) (HL352_0.out) (fun k_ hk => ⟨⟨hk.1.1, hk.1.2⟩, fun e_ => (hk.2) (by rw [e_]; rfl)⟩))).2.1 (Kd.V_F (Kd.V_mono (ok' := (fun k_ => ((fun k_ => (w.heap.size ≤ k_) ∧ some k_ ≠ (.slice (some ⟨go40, 0, none⟩) x5_3.length co52 : Value).ownBlock)) k_ ∧ k_ ≠ go44)) (HL352_0.out) (fun k_ hk => ⟨⟨hk.1.1, hk.1.2⟩, fun e_ => (hk.2) (by rw [e_]; rfl)⟩)))) (fun _ hk => hk); have hx60_0 := hcc60 0 _ rfl; (try simp only [show ((Kd.slice 3 (Kd.int .i64))).sz = 1 from rfl, Nat.mul_one, Nat.add_zero] at hx60_0); have hf60_0 := hfr60 0; (try simp only [show ((Kd.slice 3 (Kd.int .i64))).sz = 1 from rfl, Nat.mul_one, Nat.add_zero] at hf60_0); (try clear hM60); clear hcl60 hcc60 hfr60; (try simp only [show ((Kd.slice 3 (Kd.int .i64))).sz = 1 from rfl, Nat.mul_one, Nat.add_zero] at HP60); (try simp only [show ((Kd.slice 3 (Kd.int .i64))).sz = 1 from rfl, Nat.mul_one, Nat.add_zero] at HP60)) | ((with_reducible refine gate_store (t := 32) (p := 101) rfl ?_); refine store_event (t := 32) (p := 101) (v := ?vo_w61) (w1 := (w59.setCell ⟨go44, (x8_3 : Int).toNat, none⟩ (.slice A352_0 (rd_L1 x7_3 x9_23).length c352_0))) ?hg ?ho ?hn ?hr ?_; (case ho => rfl); (case hg => rfl); (case hn => rfl); (case hr => first | (go_simp; done) | (go_simp; rfl)); intro w61 hw; have hg : w59.grownBy w61 (some go44) := (by rw [hw]; exact HP60.2); have hp_ : Kd.N (Kd.slice 3 (Kd.int .i64)) 32 w61 w.heap.size (fun k_ => (w.heap.size ≤ k_) ∧ some k_ ≠ (.slice (some ⟨go40, 0, none⟩) x5_3.length co52 : Value).ownBlock) (.slice (some ⟨go44, 0, none⟩) x7_3.length co57) y355 := (by rw [hw, Ny355.out]; exact HP60.1); clear HP60; have n0_ := Aside0.mk (Kd.N_afterv (v := (.slice (some ⟨go44, 0, none⟩) x7_3.length co57)) (v1 := (.slice (some ⟨go44, 0, none⟩) x7_3.length co57)) (ok := (fun k_ => (w.heap.size ≤ k_))) (by exact HO_5.out) hg (.inl rfl)); have n1_ := Aside0.mk (hp_); have n2_ := Aside0.mk (Kd.V_afterv (v := (.slice (some ⟨go44, 0, none⟩) x7_3.length co57)) (v1 := (.slice (some ⟨go44, 0, none⟩) x7_3.length co57)) (ok := (fun k_ => (w.heap.size ≤ k_) ∧ some k_ ≠ (.slice (some ⟨go40, 0, none⟩) x5_3.length co52 : Value).ownBlock)) (by exact HL348_0.out) hg (.inl rfl)); have n3_ := Aside0.mk (Kd.V_afterv (v := (.slice (some ⟨go44, 0, none⟩) x7_3.length co57)) (v1 := (.slice (some ⟨go44, 0, none⟩) x7_3.length co57)) (ok := (fun k_ => (w.heap.size ≤ k_) ∧ some k_ ≠ (.slice (some ⟨go40, 0, none⟩) x5_3.length co52 : Value).ownBlock)) (by exact HL349_0.out) hg (.inl rfl)); have n4_ := Aside0.mk (Kd.V_afterv (v := (.slice (some ⟨go44, 0, none⟩) x7_3.length co57)) (v1 := (.slice (some ⟨go44, 0, none⟩) x7_3.length co57)) (ok := (fun k_ => (w.heap.size ≤ k_) ∧ some k_ ≠ (.slice (some ⟨go40, 0, none⟩) x5_3.length co52 : Value).ownBlock)) (by exact HL352_0.out) hg (.inl rfl)); have n5_ := Aside0.mk (Kd.V_afterv (v := (.slice (some ⟨go44, 0, none⟩) x7_3.length co57)) (v1 := (.slice (some ⟨go44, 0, none⟩) x7_3.length co57)) (ok := (fun k_ => (w.heap.size ≤ k_) ∧ some k_ ≠ (.slice (some ⟨go40, 0, none⟩) x5_3.length co52 : Value).ownBlock)) (by exact HL353_0.out) hg (.inl rfl)); have n6_ := Aside0.mk ((by rw [hw]; exact below_set (HB.out) GB44.out : Below w.heap.size w w61)); clear HO_5; clear HO_7; clear HL348_0; clear HL349_0; clear HL352_0; clear HL353_0; clear HB; have HO_5 := n0_; have HO_7 := n1_; have HL348_0 := n2_; have HL349_0 := n3_; have HL352_0 := n4_; have HL353_0 := n5_; have HB := n6_; clear n0_ n1_ n2_ n3_ n4_ n5_ n6_; clear hg hw hp_; have p356 : 0 ≤ (x8_3 : Int) := of_decide_eq_true (by assumption); have q356 : x8_3 < (y351.length : Int) := (by have h_ : (x8_3 : Int) < ((x5_3.length : Int) : Int) := of_decide_eq_true (by assumption); first | (have e_ := (Kd.N_reads' HO_5.out).1; omega) | simpa only [Ny350.out, Ny351.out, List.length_set] using h_); have ql356 : ((x8_3 : Int) < ((x5_3.length : Int) : Int)) = True := eq_true (of_decide_eq_true (by assumption)); obtain ⟨ad356, A356_0, c356_0, e356, hx356_0, hl356_0, hi356_0⟩ := at_L1 (Kd.N_reads' HO_5.out).2.2 x8_3 p356 q356; obtain rfl : (⟨go40, 0, none⟩ : Addr) = ad356 := (by injection e356); obtain ⟨ce356, hce356, hMe356, hcc356⟩ := Kd.N_get HO_5.out [] x8_3 p356 (by first | exact q356 | exact of_decide_eq_true (by assumption) | (have e_ := (Kd.N_reads' HO_5.out).1; omega)); obtain ⟨ua356_0, uc356_0, rfl, ul356_0, ge356_0⟩ := Kd.FK_slice_open hMe356; have hv356_0 := hcc356 0 _ rfl; rw [Nat.add_zero, show ((Kd.slice 3 (Kd.int .i64))).sz = 1 from rfl, Nat.mul_one] at hv356_0; replace hv356_0 := Option.some.inj (hv356_0.symm.trans hx356_0); injection hv356_0 with hva_ hvn_ hvc_; rw [hva_] at ge356_0; rw [hvc_] at ul356_0; have HL356_0 := Aside0.mk (show Kd.V (Kd.int .i64) 3 _ w.heap.size _ _ (rd_L1 y351 x8_3) from Kd.V_mk ul356_0 ge356_0); clear hva_ hvn_ hvc_ ge356_0 ul356_0; clear hcc356 hce356; (first | simp only [add_plain] at hx356_0 | simp only [add_at] at hx356_0 | simp only [Addr.add, Nat.zero_add] at hx356_0 | skip); have HR356_0 := Aside0.mk hi356_0; have HC356_0 := Aside0.mk hl356_0; clear hi356_0 hl356_0; replace p356 := eq_true p356; replace q356 := eq_true q356; have p357 : 0 ≤ (x8_3 : Int) := of_decide_eq_true (by assumption); have q357 : x8_3 < ((rd_L1 y351 x8_3).length : Int) := of_decide_eq_true (by assumption); obtain ⟨ad357, e357, hx357_0⟩ := Kd.at_int (by repeat (first | (with_reducible exact HR356_0.out) | (with_reducible refine Kd.C_alloc ?_ _) | (with_reducible refine Kd.C_drewN ?_ _) | (with_reducible refine Kd.C_drew ?_) | exact HR356_0.out)) x8_3 p357 q357; cases e357; replace p357 := eq_true p357; replace q357 := eq_true q357) | ((with_reducible refine gate_callee (f := 54) rfl ?_); refine goesL_ (some 109) rfl rfl Try.func54 (by kernel_rfl) rfl #[.int .i64 (rd (rd_L1 y351 x8_3) x8_3)] rfl (by (try simp only [List.map_toArray, List.map_cons, List.map_nil]); first | done | rfl) ?_; (with_reducible refine (spec_InvG.calls kj23 (rd (rd_L1 y351 x8_3) x8_3) t358 _ A47.out).mono ?_); rintro e w' ⟨rfl, ⟨nd, rfl⟩⟩; refine ⟨_, rfl, ?_⟩; (try (rw [drewN_self w61]; generalize hq_ : World.drewN w61 _ = w61; have n0_ : Aside0 (Kd.V (Kd.int .i64) 3 w61 w.heap.size (fun k_ => (w.heap.size ≤ k_) ∧ some k_ ≠ (.slice (some ⟨go40, 0, none⟩) x5_3.length co52 : Value).ownBlock ∧ some k_ ≠ (.slice (some ⟨go44, 0, none⟩) x7_3.length co57 : Value).ownBlock) (.slice A348_0 (rd_L1 x5_3 x9_23).length c348_0) (rd_L1 x5_3 x9_23)) := ⟨by rw [← hq_]; exact (by exact Kd.V_mono HL348_0.out (fun _ hk => by first | exact ⟨hk.1.1, ⟨hk.1.2, hk.2⟩⟩ | (repeat' (first | exact hk.1 | exact hk.2 | exact hk.1.1 | exact hk.1.2 | exact hk.2.1 | exact hk.2.2 | exact hk.1.1.1 | exact hk.1.1.2 | exact hk.1.2.1 | exact hk.1.2.2 | exact hk.2.1.1 | exact hk.2.1.2 | exact hk.2.2.1 | exact hk.2.2.2 | exact hk.1.1.1.1 | exact hk.1.1.1.2 | exact hk.1.1.2.1 | exact hk.1.1.2.2 | exact hk.1.2.1.1 | exact hk.1.2.1.2 | exact hk.1.2.2.1 | exact hk.1.2.2.2 | exact hk.2.1.1.1 | exact hk.2.1.1.2 | exact hk.2.1.2.1 | exact hk.2.1.2.2 | exact hk.2.2.1.1 | exact hk.2.2.1.2 | exact hk.2.2.2.1 | exact hk.2.2.2.2 | constructor))))⟩; have n1_ : Aside0 (Kd.V (Kd.int .i64) 3 w61 w.heap.size (fun k_ => (w.heap.size ≤ k_) ∧ some k_ ≠ (.slice (some ⟨go40, 0, none⟩) x5_3.length co52 : Value).ownBlock ∧ some k_ ≠ (.slice (some ⟨go44, 0, none⟩) x7_3.length co57 : Value).ownBlock) (.slice A349_0 (rd_L1 x5_3 x8_3).length c349_0) (rd_L1 x5_3 x8_3)) := ⟨by rw [← hq_]; exact (by exact Kd.V_mono HL349_0.out (fun _ hk => by first | exact ⟨hk.1.1, ⟨hk.1.2, hk.2⟩⟩ | (repeat' (first | exact hk.1 | exact hk.2 | exact hk.1.1 | exact hk.1.2 | exact hk.2.1 | exact hk.2.2 | exact hk.1.1.1 | exact hk.1.1.2 | exact hk.1.2.1 | exact hk.1.2.2 | exact hk.2.1.1 | exact hk.2.1.2 | exact hk.2.2.1 | exact hk.2.2.2 | exact hk.1.1.1.1 | exact hk.1.1.1.2 | exact hk.1.1.2.1 | exact hk.1.1.2.2 | exact hk.1.2.1.1 | exact hk.1.2.1.2 | exact hk.1.2.2.1 | exact hk.1.2.2.2 | exact hk.2.1.1.1 | exact hk.2.1.1.2 | exact hk.2.1.2.1 | exact hk.2.1.2.2 | exact hk.2.2.1.1 | exact hk.2.2.1.2 | exact hk.2.2.2.1 | exact hk.2.2.2.2 | constructor))))⟩; have n2_ : Aside0 (Kd.V (Kd.int .i64) 3 w61 w.heap.size (fun k_ => (w.heap.size ≤ k_) ∧ some k_ ≠ (.slice (some ⟨go40, 0, none⟩) x5_3.length co52 : Value).ownBlock ∧ some k_ ≠ (.slice (some ⟨go44, 0, none⟩) x7_3.length co57 : Value).ownBlock) (.slice A352_0 (rd_L1 x7_3 x9_23).length c352_0) (rd_L1 x7_3 x9_23)) := ⟨by rw [← hq_]; exact (by exact Kd.V_mono HL352_0.out (fun _ hk => by first | exact ⟨hk.1.1, ⟨hk.1.2, hk.2⟩⟩ | (repeat' (first | exact hk.1 | exact hk.2 | exact hk.1.1 | exact hk.1.2 | exact hk.2.1 | exact hk.2.2 | exact hk.1.1.1 | exact hk.1.1.2 | exact hk.1.2.1 | exact hk.1.2.2 | exact hk.2.1.1 | exact hk.2.1.2 | exact hk.2.2.1 | exact hk.2.2.2 | exact hk.1.1.1.1 | exact hk.1.1.1.2 | exact hk.1.1.2.1 | exact hk.1.1.2.2 | exact hk.1.2.1.1 | exact hk.1.2.1.2 | exact hk.1.2.2.1 | exact hk.1.2.2.2 | exact hk.2.1.1.1 | exact hk.2.1.1.2 | exact hk.2.1.2.1 | exact hk.2.1.2.2 | exact hk.2.2.1.1 | exact hk.2.2.1.2 | exact hk.2.2.2.1 | exact hk.2.2.2.2 | constructor))))⟩; have n3_ : Aside0 (Kd.V (Kd.int .i64) 3 w61 w.heap.size (fun k_ => (w.heap.size ≤ k_) ∧ some k_ ≠ (.slice (some ⟨go40, 0, none⟩) x5_3.length co52 : Value).ownBlock ∧ some k_ ≠ (.slice (some ⟨go44, 0, none⟩) x7_3.length co57 : Value).ownBlock) (.slice A353_0 (rd_L1 x7_3 x8_3).length c353_0) (rd_L1 x7_3 x8_3)) := ⟨by rw [← hq_]; exact (by exact Kd.V_mono HL353_0.out (fun _ hk => by first | exact ⟨hk.1.1, ⟨hk.1.2, hk.2⟩⟩ | (repeat' (first | exact hk.1 | exact hk.2 | exact hk.1.1 | exact hk.1.2 | exact hk.2.1 | exact hk.2.2 | exact hk.1.1.1 | exact hk.1.1.2 | exact hk.1.2.1 | exact hk.1.2.2 | exact hk.2.1.1 | exact hk.2.1.2 | exact hk.2.2.1 | exact hk.2.2.2 | exact hk.1.1.1.1 | exact hk.1.1.1.2 | exact hk.1.1.2.1 | exact hk.1.1.2.2 | exact hk.1.2.1.1 | exact hk.1.2.1.2 | exact hk.1.2.2.1 | exact hk.1.2.2.2 | exact hk.2.1.1.1 | exact hk.2.1.1.2 | exact hk.2.1.2.1 | exact hk.2.1.2.2 | exact hk.2.2.1.1 | exact hk.2.2.1.2 | exact hk.2.2.2.1 | exact hk.2.2.2.2 | constructor))))⟩; have n4_ : Aside0 (Kd.V (Kd.int .i64) 3 w61 w.heap.size (fun k_ => (w.heap.size ≤ k_) ∧ some k_ ≠ (.slice (some ⟨go40, 0, none⟩) x5_3.length co52 : Value).ownBlock ∧ some k_ ≠ (.slice (some ⟨go44, 0, none⟩) x7_3.length co57 : Value).ownBlock) (.slice (some ad357) (rd_L1 y351 x8_3).length c356_0) (rd_L1 y351 x8_3)) := ⟨by rw [← hq_]; exact (by exact Kd.V_mono HL356_0.out (fun _ hk => by first | exact ⟨hk.1.1, ⟨hk.2, hk.1.2⟩⟩ | (repeat' (first | exact hk.1 | exact hk.2 | exact hk.1.1 | exact hk.1.2 | exact hk.2.1 | exact hk.2.2 | exact hk.1.1.1 | exact hk.1.1.2 | exact hk.1.2.1 | exact hk.1.2.2 | exact hk.2.1.1 | exact hk.2.1.2 | exact hk.2.2.1 | exact hk.2.2.2 | exact hk.1.1.1.1 | exact hk.1.1.1.2 | exact hk.1.1.2.1 | exact hk.1.1.2.2 | exact hk.1.2.1.1 | exact hk.1.2.1.2 | exact hk.1.2.2.1 | exact hk.1.2.2.2 | exact hk.2.1.1.1 | exact hk.2.1.1.2 | exact hk.2.1.2.1 | exact hk.2.1.2.2 | exact hk.2.2.1.1 | exact hk.2.2.1.2 | exact hk.2.2.2.1 | exact hk.2.2.2.2 | constructor))))⟩; have n5_ : Aside0 (Kd.N (Kd.slice 3 (Kd.int .i64)) 32 w61 w.heap.size (fun k_ => (w.heap.size ≤ k_) ∧ some k_ ≠ (.slice (some ⟨go44, 0, none⟩) x7_3.length co57 : Value).ownBlock) (.slice (some ⟨go40, 0, none⟩) x5_3.length co52) y351) := ⟨by rw [← hq_]; exact (by exact HO_5.out)⟩; have n6_ : Aside0 (Kd.N (Kd.slice 3 (Kd.int .i64)) 32 w61 w.heap.size (fun k_ => (w.heap.size ≤ k_) ∧ some k_ ≠ (.slice (some ⟨go40, 0, none⟩) x5_3.length co52 : Value).ownBlock) (.slice (some ⟨go44, 0, none⟩) x7_3.length co57) y355) := ⟨by rw [← hq_]; exact (by exact HO_7.out)⟩; have n7_ : Aside0 (Below w.heap.size w w61) := ⟨by rw [← hq_]; exact (by repeat (first | exact HB.out | apply below_alloc | apply pw_below_drewN | apply below_drew1))⟩; have n8_ : Aside0 (Kd.C (Kd.int .i64) w61 (some ad357) (rd_L1 y351 x8_3).length (rd_L1 y351 x8_3)) := ⟨by rw [← hq_]; exact (by repeat (first | (with_reducible exact HR356_0.out) | (with_reducible refine Kd.C_alloc ?_ _) | (with_reducible refine Kd.C_drewN ?_ _) | (with_reducible refine Kd.C_drew ?_) | exact HR356_0.out))⟩; (try have hx356_0 := (congrArg (fun W_ => World.cell? W_ _) hq_).symm.trans hx356_0); clear HL348_0 HL349_0 HL352_0 HL353_0 HL356_0 HO_5 HO_7 HB HR356_0 hq_; have HL348_0 := n0_; have HL349_0 := n1_; have HL352_0 := n2_; have HL353_0 := n3_; have HL356_0 := n4_; have HO_5 := n5_; have HO_7 := n6_; have HB := n7_; have HR356_0 := n8_; clear n0_ n1_ n2_ n3_ n4_ n5_ n6_ n7_ n8_)); have p359 : 0 ≤ (x8_3 : Int) := of_decide_eq_true (by assumption); have q359 : x8_3 < (y351.length : Int) := (by have h_ : (x8_3 : Int) < ((x5_3.length : Int) : Int) := of_decide_eq_true (by assumption); first | (have e_ := (Kd.N_reads' HO_5.out).1; omega) | simpa only [Ny350.out, Ny351.out, List.length_set] using h_); have ql359 : ((x8_3 : Int) < ((x5_3.length : Int) : Int)) = True := eq_true (of_decide_eq_true (by assumption)); obtain ⟨ad359, A359_0, c359_0, e359, hx359_0, hl359_0, hi359_0⟩ := at_L1 (Kd.N_reads' HO_5.out).2.2 x8_3 p359 q359; obtain rfl : (⟨go40, 0, none⟩ : Addr) = ad359 := (by injection e359); obtain ⟨ce359, hce359, hMe359, hcc359⟩ := Kd.N_get HO_5.out [] x8_3 p359 (by first | exact q359 | exact of_decide_eq_true (by assumption) | (have e_ := (Kd.N_reads' HO_5.out).1; omega)); obtain ⟨ua359_0, uc359_0, rfl, ul359_0, ge359_0⟩ := Kd.FK_slice_open hMe359; have hv359_0 := hcc359 0 _ rfl; rw [Nat.add_zero, show ((Kd.slice 3 (Kd.int .i64))).sz = 1 from rfl, Nat.mul_one] at hv359_0; replace hv359_0 := Option.some.inj (hv359_0.symm.trans hx359_0); injection hv359_0 with hva_ hvn_ hvc_; rw [hva_] at ge359_0; rw [hvc_] at ul359_0; have HL359_0 := Aside0.mk (show Kd.V (Kd.int .i64) 3 _ w.heap.size _ _ (rd_L1 y351 x8_3) from Kd.V_mk ul359_0 ge359_0); clear hva_ hvn_ hvc_ ge359_0 ul359_0; clear hcc359 hce359; (first | simp only [add_plain] at hx359_0 | simp only [add_at] at hx359_0 | simp only [Addr.add, Nat.zero_add] at hx359_0 | skip); have HR359_0 := Aside0.mk hi359_0; have HC359_0 := Aside0.mk hl359_0; clear hi359_0 hl359_0; replace p359 := eq_true p359; replace q359 := eq_true q359; have ea_ := Option.some.inj (hx356_0.symm.trans hx359_0); injection ea_ with ea_ en_ ec_; subst ea_; subst ec_; clear en_) | ((with_reducible refine gate_callee (f := 58) rfl ?_); refine goesL_ (some 117) rfl rfl Try.func58 (by kernel_rfl) rfl #[.slice (some ad357) (rd_L1 y351 x8_3).length c356_0, .int .i64 t358] rfl (by (try simp only [List.map_toArray, List.map_cons, List.map_nil]); first | done | rfl) ?_; (with_reducible refine (spec_l06Times.calls kj23 _ _ (rd_L1 y351 x8_3) t358 t360 _ ?side1 ?side2 A48.out).mono ?_); (case side1 => repeat (first | exact (by repeat (first | (with_reducible exact HR359_0.out) | (with_reducible refine Kd.C_alloc ?_ _) | (with_reducible refine Kd.C_drewN ?_ _) | (with_reducible refine Kd.C_drew ?_) | exact HR359_0.out)) | (with_reducible refine Kd.C_alloc ?_ _) | (with_reducible refine Kd.C_drewN ?_ _) | (with_reducible refine Kd.C_drew ?_))); (case side2 => exact HC359_0.out); rintro e w62 ⟨v361, rfl, ho0, hb⟩; refine ⟨_, rfl, ?_⟩; have n0_ := Aside0.mk (Kd.N_elder' (by exact HO_5.out) (Kd.R_base ho0) hb); have n1_ := Aside0.mk (Kd.N_elder' (by exact HO_7.out) (Kd.R_base ho0) hb); have n2_ := Aside0.mk (Kd.V_elder' (by exact HL348_0.out) (Kd.R_base ho0) hb); have n3_ := Aside0.mk (Kd.V_elder' (by exact HL349_0.out) (Kd.R_base ho0) hb); have n4_ := Aside0.mk (Kd.V_elder' (by exact HL352_0.out) (Kd.R_base ho0) hb); have n5_ := Aside0.mk (Kd.V_elder' (by exact HL353_0.out) (Kd.R_base ho0) hb); have n6_ := Aside0.mk (Kd.V_elder' (by exact HL356_0.out) (Kd.R_base ho0) hb); have n7_ := Aside0.mk (Kd.V_elder' (by exact HL359_0.out) (Kd.R_base ho0) hb); have n8_ := Aside0.mk (Kd.R_lower (Kd.R_newM (M := fun k_ => (w.heap.size ≤ k_)) ho0 (below_size (by repeat (first | exact HB.out | apply below_alloc | apply pw_below_drewN | apply below_drew1))) (fun k_ h_ => h_)) (below_size (by repeat (first | exact HB.out | apply below_alloc | apply pw_below_drewN | apply below_drew1)))); have n9_ := Aside0.mk (Kd.C_below (by repeat (first | (with_reducible exact HR356_0.out) | (with_reducible refine Kd.C_alloc ?_ _) | (with_reducible refine Kd.C_drewN ?_ _) | (with_reducible refine Kd.C_drew ?_) | exact HR356_0.out)) hb); have n10_ := Aside0.mk (Kd.C_below (by repeat (first | (with_reducible exact HR359_0.out) | (with_reducible refine Kd.C_alloc ?_ _) | (with_reducible refine Kd.C_drewN ?_ _) | (with_reducible refine Kd.C_drew ?_) | exact HR359_0.out)) hb); have n11_ := Aside0.mk (below_step (by repeat (first | exact HB.out | apply below_alloc | apply pw_below_drewN | apply below_drew1)) hb); clear HO_5; clear HO_7; clear HL348_0; clear HL349_0; clear HL352_0; clear HL353_0; clear HL356_0; clear HL359_0; clear HR356_0; clear HR359_0; clear HB; have HO_5 := n0_; have HO_7 := n1_; have HL348_0 := n2_; have HL349_0 := n3_; have HL352_0 := n4_; have HL353_0 := n5_; have HL356_0 := n6_; have HL359_0 := n7_; have HO362 := n8_; have HR356_0 := n9_; have HR359_0 := n10_; have HB := n11_; clear n0_ n1_ n2_ n3_ n4_ n5_ n6_ n7_ n8_ n9_ n10_ n11_; (try clear hb); (try clear hk); (try clear ho0); have p49 : 0 ≤ (x8_3 : Int) := of_decide_eq_true (by assumption); have q49 : (x8_3 : Int) < ((x5_3.length : Int) : Int) := of_decide_eq_true (by assumption); obtain ⟨ce49, hcl49, hM49, hcc49, hfr49⟩ := Kd.N_elem HO_5.out [] (x8_3 : Int) p49 q49; obtain ⟨ua49_0, uc49_0, rfl, ul49_0, ge49_0⟩ := Kd.FK_slice_open hM49; have hx49_0 := hcc49 0 _ rfl; have hf49_0 := hfr49 0; (try simp only [show ((Kd.slice 3 (Kd.int .i64))).sz = 1 from rfl, Nat.mul_one, Nat.add_zero] at hx49_0); (try simp only [show ((Kd.slice 3 (Kd.int .i64))).sz = 1 from rfl, Nat.mul_one, Nat.add_zero] at hf49_0); (try clear hM49); clear hcl49 hcc49 hfr49; replace p49 := eq_true p49; replace q49 := eq_true q49; obtain ⟨Ao65, co65, eo65⟩ := Kd.R_slice HO362.out; subst eo65; have n_ := Aside0.mk (Kd.N_mono (ok' := (fun k_ => (w.heap.size ≤ k_) ∧ some k_ ≠ (.slice (some ⟨go44, 0, none⟩) x7_3.length co57 : Value).ownBlock ∧ some k_ ≠ (.slice Ao65 t360.length co65 : Value).ownBlock)) HO_5.out (fun k_ hk => ⟨hk.1.1, ⟨hk.1.2, hk.2⟩⟩)); clear HO_5; have HO_5 := n_; clear n_; have HX63 := Aside0.mk (show Kd.N (Kd.slice 3 (Kd.int .i64)) 32 w62 w.heap.size (fun k_ => (w.heap.size ≤ k_) ∧ some k_ ≠ (.slice (some ⟨go44, 0, none⟩) x7_3.length co57 : Value).ownBlock) (.slice (some ⟨go40, 0, none⟩) x5_3.length co52) y351 from (by exact Kd.N_mono HO_5.out (fun _ hk => ⟨hk.1, hk.2.1⟩))); obtain ⟨ce63, hcl63, hM63, hcc63, hfr63⟩ := Kd.N_elem HX63.out [] (x8_3 : Int) (of_decide_eq_true (by assumption)) (by have h_ : (x8_3 : Int) < ((x5_3.length : Int) : Int) := of_decide_eq_true (by assumption); first | exact h_ | (have e_ := (Kd.N_reads' HO_5.out).1; omega) | simpa using h_); obtain ⟨ua63_0, uc63_0, rfl, ul63_0, ge63_0⟩ := Kd.FK_slice_open hM63; have HP63 := Kd.N_seg HX63.out (x8_3 : Int) (of_decide_eq_true (by assumption)) (by have h_ : (x8_3 : Int) < ((x5_3.length : Int) : Int) := of_decide_eq_true (by assumption); first | exact h_ | (have e_ := (Kd.N_reads' HO_5.out).1; omega) | simpa using h_) (seg := [.slice Ao65 t360.length co65]) (j := 0) hcl63 hcc63 (show 1 ≤ 1 from by decide) (x' := t360) (Kd.FK_slice_mk (Kd.R_reads' (Kd.R_mono (ok' := (fun k_ => ((fun k_ => (w.heap.size ≤ k_) ∧ some k_ ≠ (.slice (some ⟨go44, 0, none⟩) x7_3.length co57 : Value).ownBlock)) k_ ∧ k_ ≠ go40)) (Kd.R_apart' (Kd.R_apart' (HO362.out) (Kd.N_typed HO_7.out) (by decide)) (Kd.N_typed HO_5.out) (by decide)) (fun k_ hk => ⟨⟨hk.1.1.1, hk.1.2⟩, fun e_ => (hk.2) (by rw [e_]; rfl)⟩))).2.1 (Kd.R_F (Kd.R_mono (ok' := (fun k_ => ((fun k_ => (w.heap.size ≤ k_) ∧ some k_ ≠ (.slice (some ⟨go44, 0, none⟩) x7_3.length co57 : Value).ownBlock)) k_ ∧ k_ ≠ go40)) (Kd.R_apart' (Kd.R_apart' (HO362.out) (Kd.N_typed HO_7.out) (by decide)) (Kd.N_typed HO_5.out) (by decide)) (fun k_ hk => ⟨⟨hk.1.1.1, hk.1.2⟩, fun e_ => (hk.2) (by rw [e_]; rfl)⟩)))) (fun _ hk => hk); have hx63_0 := hcc63 0 _ rfl; (try simp only [show ((Kd.slice 3 (Kd.int .i64))).sz = 1 from rfl, Nat.mul_one, Nat.add_zero] at hx63_0); have hf63_0 := hfr63 0; (try simp only [show ((Kd.slice 3 (Kd.int .i64))).sz = 1 from rfl, Nat.mul_one, Nat.add_zero] at hf63_0); (try clear hM63); clear hcl63 hcc63 hfr63; (try simp only [show ((Kd.slice 3 (Kd.int .i64))).sz = 1 from rfl, Nat.mul_one, Nat.add_zero] at HP63); (try simp only [show ((Kd.slice 3 (Kd.int .i64))).sz = 1 from rfl, Nat.mul_one, Nat.add_zero] at HP63)) | ((with_reducible refine gate_store (t := 32) (p := 118) rfl ?_); refine store_event (t := 32) (p := 118) (v := ?vo_w64) (w1 := (w62.setCell ⟨go40, (x8_3 : Int).toNat, none⟩ (.slice Ao65 t360.length co65))) ?hg ?ho ?hn ?hr ?_; (case ho => rfl); (case hg => rfl); (case hn => rfl); (case hr => first | (go_simp; done) | (go_simp; rfl)); intro w64 hw; have hg : w62.grownBy w64 (some go40) := (by rw [hw]; exact HP63.2); have hp_ : Kd.N (Kd.slice 3 (Kd.int .i64)) 32 w64 w.heap.size (fun k_ => (w.heap.size ≤ k_) ∧ some k_ ≠ (.slice (some ⟨go44, 0, none⟩) x7_3.length co57 : Value).ownBlock) (.slice (some ⟨go40, 0, none⟩) x5_3.length co52) y363 := (by rw [hw, Ny363.out]; exact HP63.1); clear HP63; have n0_ := Aside0.mk (hp_); have n1_ := Aside0.mk (Kd.N_afterv (v := (.slice (some ⟨go40, 0, none⟩) x5_3.length co52)) (v1 := (.slice (some ⟨go40, 0, none⟩) x5_3.length co52)) (ok := (fun k_ => (w.heap.size ≤ k_) ∧ some k_ ≠ (.slice Ao65 t360.length co65 : Value).ownBlock)) (by exact Kd.N_mono HO_7.out (fun _ hk => ⟨⟨hk.1.1, hk.2⟩, hk.1.2⟩)) hg (.inl rfl)); have n2_ := Aside0.mk (Kd.V_afterv (v := (.slice (some ⟨go40, 0, none⟩) x5_3.length co52)) (v1 := (.slice (some ⟨go40, 0, none⟩) x5_3.length co52)) (ok := (fun k_ => (w.heap.size ≤ k_) ∧ some k_ ≠ (.slice (some ⟨go44, 0, none⟩) x7_3.length co57 : Value).ownBlock ∧ some k_ ≠ (.slice Ao65 t360.length co65 : Value).ownBlock)) (by exact Kd.V_mono HL348_0.out (fun _ hk => by first | exact ⟨⟨hk.1.1.1, ⟨hk.1.2, hk.2⟩⟩, hk.1.1.2⟩ | (repeat' (first | exact hk.1 | exact hk.2 | exact hk.1.1 | exact hk.1.2 | exact hk.2.1 | exact hk.2.2 | exact hk.1.1.1 | exact hk.1.1.2 | exact hk.1.2.1 | exact hk.1.2.2 | exact hk.2.1.1 | exact hk.2.1.2 | exact hk.2.2.1 | exact hk.2.2.2 | exact hk.1.1.1.1 | exact hk.1.1.1.2 | exact hk.1.1.2.1 | exact hk.1.1.2.2 | exact hk.1.2.1.1 | exact hk.1.2.1.2 | exact hk.1.2.2.1 | exact hk.1.2.2.2 | exact hk.2.1.1.1 | exact hk.2.1.1.2 | exact hk.2.1.2.1 | exact hk.2.1.2.2 | exact hk.2.2.1.1 | exact hk.2.2.1.2 | exact hk.2.2.2.1 | exact hk.2.2.2.2 | constructor)))) hg (.inl rfl)); have n3_ := Aside0.mk (Kd.V_afterv (v := (.slice (some ⟨go40, 0, none⟩) x5_3.length co52)) (v1 := (.slice (some ⟨go40, 0, none⟩) x5_3.length co52)) (ok := (fun k_ => (w.heap.size ≤ k_) ∧ some k_ ≠ (.slice (some ⟨go44, 0, none⟩) x7_3.length co57 : Value).ownBlock ∧ some k_ ≠ (.slice Ao65 t360.length co65 : Value).ownBlock)) (by exact Kd.V_mono HL349_0.out (fun _ hk => by first | exact ⟨⟨hk.1.1.1, ⟨hk.1.2, hk.2⟩⟩, hk.1.1.2⟩ | (repeat' (first | exact hk.1 | exact hk.2 | exact hk.1.1 | exact hk.1.2 | exact hk.2.1 | exact hk.2.2 | exact hk.1.1.1 | exact hk.1.1.2 | exact hk.1.2.1 | exact hk.1.2.2 | exact hk.2.1.1 | exact hk.2.1.2 | exact hk.2.2.1 | exact hk.2.2.2 | exact hk.1.1.1.1 | exact hk.1.1.1.2 | exact hk.1.1.2.1 | exact hk.1.1.2.2 | exact hk.1.2.1.1 | exact hk.1.2.1.2 | exact hk.1.2.2.1 | exact hk.1.2.2.2 | exact hk.2.1.1.1 | exact hk.2.1.1.2 | exact hk.2.1.2.1 | exact hk.2.1.2.2 | exact hk.2.2.1.1 | exact hk.2.2.1.2 | exact hk.2.2.2.1 | exact hk.2.2.2.2 | constructor)))) hg (.inl rfl)); have n4_ := Aside0.mk (Kd.V_afterv (v := (.slice (some ⟨go40, 0, none⟩) x5_3.length co52)) (v1 := (.slice (some ⟨go40, 0, none⟩) x5_3.length co52)) (ok := (fun k_ => (w.heap.size ≤ k_) ∧ some k_ ≠ (.slice (some ⟨go44, 0, none⟩) x7_3.length co57 : Value).ownBlock ∧ some k_ ≠ (.slice Ao65 t360.length co65 : Value).ownBlock)) (by exact Kd.V_mono HL352_0.out (fun _ hk => by first | exact ⟨⟨hk.1.1.1, ⟨hk.1.2, hk.2⟩⟩, hk.1.1.2⟩ | (repeat' (first | exact hk.1 | exact hk.2 | exact hk.1.1 | exact hk.1.2 | exact hk.2.1 | exact hk.2.2 | exact hk.1.1.1 | exact hk.1.1.2 | exact hk.1.2.1 | exact hk.1.2.2 | exact hk.2.1.1 | exact hk.2.1.2 | exact hk.2.2.1 | exact hk.2.2.2 | exact hk.1.1.1.1 | exact hk.1.1.1.2 | exact hk.1.1.2.1 | exact hk.1.1.2.2 | exact hk.1.2.1.1 | exact hk.1.2.1.2 | exact hk.1.2.2.1 | exact hk.1.2.2.2 | exact hk.2.1.1.1 | exact hk.2.1.1.2 | exact hk.2.1.2.1 | exact hk.2.1.2.2 | exact hk.2.2.1.1 | exact hk.2.2.1.2 | exact hk.2.2.2.1 | exact hk.2.2.2.2 | constructor)))) hg (.inl rfl)); have n5_ := Aside0.mk (Kd.V_afterv (v := (.slice (some ⟨go40, 0, none⟩) x5_3.length co52)) (v1 := (.slice (some ⟨go40, 0, none⟩) x5_3.length co52)) (ok := (fun k_ => (w.heap.size ≤ k_) ∧ some k_ ≠ (.slice (some ⟨go44, 0, none⟩) x7_3.length co57 : Value).ownBlock ∧ some k_ ≠ (.slice Ao65 t360.length co65 : Value).ownBlock)) (by exact Kd.V_mono HL353_0.out (fun _ hk => by first | exact ⟨⟨hk.1.1.1, ⟨hk.1.2, hk.2⟩⟩, hk.1.1.2⟩ | (repeat' (first | exact hk.1 | exact hk.2 | exact hk.1.1 | exact hk.1.2 | exact hk.2.1 | exact hk.2.2 | exact hk.1.1.1 | exact hk.1.1.2 | exact hk.1.2.1 | exact hk.1.2.2 | exact hk.2.1.1 | exact hk.2.1.2 | exact hk.2.2.1 | exact hk.2.2.2 | exact hk.1.1.1.1 | exact hk.1.1.1.2 | exact hk.1.1.2.1 | exact hk.1.1.2.2 | exact hk.1.2.1.1 | exact hk.1.2.1.2 | exact hk.1.2.2.1 | exact hk.1.2.2.2 | exact hk.2.1.1.1 | exact hk.2.1.1.2 | exact hk.2.1.2.1 | exact hk.2.1.2.2 | exact hk.2.2.1.1 | exact hk.2.2.1.2 | exact hk.2.2.2.1 | exact hk.2.2.2.2 | constructor)))) hg (.inl rfl)); have n6_ := Aside0.mk (Kd.V_afterv (v := (.slice (some ⟨go40, 0, none⟩) x5_3.length co52)) (v1 := (.slice (some ⟨go40, 0, none⟩) x5_3.length co52)) (ok := (fun k_ => (w.heap.size ≤ k_) ∧ some k_ ≠ (.slice (some ⟨go44, 0, none⟩) x7_3.length co57 : Value).ownBlock ∧ some k_ ≠ (.slice Ao65 t360.length co65 : Value).ownBlock)) (by exact Kd.V_mono HL356_0.out (fun _ hk => by first | exact ⟨⟨hk.1.1.1, ⟨hk.1.1.2, hk.2⟩⟩, hk.1.2⟩ | (repeat' (first | exact hk.1 | exact hk.2 | exact hk.1.1 | exact hk.1.2 | exact hk.2.1 | exact hk.2.2 | exact hk.1.1.1 | exact hk.1.1.2 | exact hk.1.2.1 | exact hk.1.2.2 | exact hk.2.1.1 | exact hk.2.1.2 | exact hk.2.2.1 | exact hk.2.2.2 | exact hk.1.1.1.1 | exact hk.1.1.1.2 | exact hk.1.1.2.1 | exact hk.1.1.2.2 | exact hk.1.2.1.1 | exact hk.1.2.1.2 | exact hk.1.2.2.1 | exact hk.1.2.2.2 | exact hk.2.1.1.1 | exact hk.2.1.1.2 | exact hk.2.1.2.1 | exact hk.2.1.2.2 | exact hk.2.2.1.1 | exact hk.2.2.1.2 | exact hk.2.2.2.1 | exact hk.2.2.2.2 | constructor)))) hg (.inl rfl)); have n7_ := Aside0.mk (Kd.V_afterv (v := (.slice (some ⟨go40, 0, none⟩) x5_3.length co52)) (v1 := (.slice (some ⟨go40, 0, none⟩) x5_3.length co52)) (ok := (fun k_ => (w.heap.size ≤ k_) ∧ some k_ ≠ (.slice (some ⟨go44, 0, none⟩) x7_3.length co57 : Value).ownBlock ∧ some k_ ≠ (.slice Ao65 t360.length co65 : Value).ownBlock)) (by exact Kd.V_mono HL359_0.out (fun _ hk => by first | exact ⟨⟨hk.1.1.1, ⟨hk.1.1.2, hk.2⟩⟩, hk.1.2⟩ | (repeat' (first | exact hk.1 | exact hk.2 | exact hk.1.1 | exact hk.1.2 | exact hk.2.1 | exact hk.2.2 | exact hk.1.1.1 | exact hk.1.1.2 | exact hk.1.2.1 | exact hk.1.2.2 | exact hk.2.1.1 | exact hk.2.1.2 | exact hk.2.2.1 | exact hk.2.2.2 | exact hk.1.1.1.1 | exact hk.1.1.1.2 | exact hk.1.1.2.1 | exact hk.1.1.2.2 | exact hk.1.2.1.1 | exact hk.1.2.1.2 | exact hk.1.2.2.1 | exact hk.1.2.2.2 | exact hk.2.1.1.1 | exact hk.2.1.1.2 | exact hk.2.1.2.1 | exact hk.2.1.2.2 | exact hk.2.2.1.1 | exact hk.2.2.1.2 | exact hk.2.2.2.1 | exact hk.2.2.2.2 | constructor)))) hg (.inl rfl)); have n8_ := Aside0.mk ((by rw [hw]; exact below_set (HB.out) GB40.out : Below w.heap.size w w64)); clear HO_5; clear HO_7; clear HL348_0; clear HL349_0; clear HL352_0; clear HL353_0; clear HL356_0; clear HL359_0; clear HB; clear HO362; have HO_5 := n0_; have HO_7 := n1_; have HL348_0 := n2_; have HL349_0 := n3_; have HL352_0 := n4_; have HL353_0 := n5_; have HL356_0 := n6_; have HL359_0 := n7_; have HB := n8_; clear n0_ n1_ n2_ n3_ n4_ n5_ n6_ n7_ n8_; clear hg hw hp_; have p364 : 0 ≤ (x8_3 : Int) := of_decide_eq_true (by assumption); have q364 : x8_3 < (y355.length : Int) := (by have h_ : (x8_3 : Int) < ((x7_3.length : Int) : Int) := of_decide_eq_true (by assumption); first | (have e_ := (Kd.N_reads' HO_7.out).1; omega) | simpa only [Ny354.out, Ny355.out, List.length_set] using h_); have ql364 : ((x8_3 : Int) < ((x7_3.length : Int) : Int)) = True := eq_true (of_decide_eq_true (by assumption)); obtain ⟨ad364, A364_0, c364_0, e364, hx364_0, hl364_0, hi364_0⟩ := at_L1 (Kd.N_reads' HO_7.out).2.2 x8_3 p364 q364; obtain rfl : (⟨go44, 0, none⟩ : Addr) = ad364 := (by injection e364); obtain ⟨ce364, hce364, hMe364, hcc364⟩ := Kd.N_get HO_7.out [] x8_3 p364 (by first | exact q364 | exact of_decide_eq_true (by assumption) | (have e_ := (Kd.N_reads' HO_7.out).1; omega)); obtain ⟨ua364_0, uc364_0, rfl, ul364_0, ge364_0⟩ := Kd.FK_slice_open hMe364; have hv364_0 := hcc364 0 _ rfl; rw [Nat.add_zero, show ((Kd.slice 3 (Kd.int .i64))).sz = 1 from rfl, Nat.mul_one] at hv364_0; replace hv364_0 := Option.some.inj (hv364_0.symm.trans hx364_0); injection hv364_0 with hva_ hvn_ hvc_; rw [hva_] at ge364_0; rw [hvc_] at ul364_0; have HL364_0 := Aside0.mk (show Kd.V (Kd.int .i64) 3 _ w.heap.size _ _ (rd_L1 y355 x8_3) from Kd.V_mk ul364_0 ge364_0); clear hva_ hvn_ hvc_ ge364_0 ul364_0; clear hcc364 hce364; (first | simp only [add_plain] at hx364_0 | simp only [add_at] at hx364_0 | simp only [Addr.add, Nat.zero_add] at hx364_0 | skip); have HR364_0 := Aside0.mk hi364_0; have HC364_0 := Aside0.mk hl364_0; clear hi364_0 hl364_0; replace p364 := eq_true p364; replace q364 := eq_true q364) | ((with_reducible refine gate_callee (f := 58) rfl ?_); refine goesL_ (some 126) rfl rfl Try.func58 (by kernel_rfl) rfl #[.slice A364_0 (rd_L1 y355 x8_3).length c364_0, .int .i64 t358] rfl (by (try simp only [List.map_toArray, List.map_cons, List.map_nil]); first | done | rfl) ?_; (with_reducible refine (spec_l06Times.calls kj23 _ _ (rd_L1 y355 x8_3) t358 t365 _ ?side1 ?side2 A50.out).mono ?_); (case side1 => repeat (first | exact (by repeat (first | (with_reducible exact HR364_0.out) | (with_reducible refine Kd.C_alloc ?_ _) | (with_reducible refine Kd.C_drewN ?_ _) | (with_reducible refine Kd.C_drew ?_) | exact HR364_0.out)) | (with_reducible refine Kd.C_alloc ?_ _) | (with_reducible refine Kd.C_drewN ?_ _) | (with_reducible refine Kd.C_drew ?_))); (case side2 => exact HC364_0.out); rintro e w66 ⟨v366, rfl, ho0, hb⟩; refine ⟨_, rfl, ?_⟩; have n0_ := Aside0.mk (Kd.N_elder' (by exact HO_5.out) (Kd.R_base ho0) hb); have n1_ := Aside0.mk (Kd.N_elder' (by exact HO_7.out) (Kd.R_base ho0) hb); have n2_ := Aside0.mk (Kd.V_elder' (by exact HL348_0.out) (Kd.R_base ho0) hb); have n3_ := Aside0.mk (Kd.V_elder' (by exact HL349_0.out) (Kd.R_base ho0) hb); have n4_ := Aside0.mk (Kd.V_elder' (by exact HL352_0.out) (Kd.R_base ho0) hb); have n5_ := Aside0.mk (Kd.V_elder' (by exact HL353_0.out) (Kd.R_base ho0) hb); have n6_ := Aside0.mk (Kd.V_elder' (by exact HL356_0.out) (Kd.R_base ho0) hb); have n7_ := Aside0.mk (Kd.V_elder' (by exact HL359_0.out) (Kd.R_base ho0) hb); have n8_ := Aside0.mk (Kd.V_elder' (by exact HL364_0.out) (Kd.R_base ho0) hb); have n9_ := Aside0.mk (Kd.R_lower (Kd.R_newM (M := fun k_ => (w.heap.size ≤ k_)) ho0 (below_size (by repeat (first | exact HB.out | apply below_alloc | apply pw_below_drewN | apply below_drew1))) (fun k_ h_ => h_)) (below_size (by repeat (first | exact HB.out | apply below_alloc | apply pw_below_drewN | apply below_drew1)))); have n10_ := Aside0.mk (Kd.C_below (by repeat (first | (with_reducible exact HR364_0.out) | (with_reducible refine Kd.C_alloc ?_ _) | (with_reducible refine Kd.C_drewN ?_ _) | (with_reducible refine Kd.C_drew ?_) | exact HR364_0.out)) hb); have n11_ := Aside0.mk (below_step (by repeat (first | exact HB.out | apply below_alloc | apply pw_below_drewN | apply below_drew1)) hb); clear HO_5; clear HO_7; clear HL348_0; clear HL349_0; clear HL352_0; clear HL353_0; clear HL356_0; clear HL359_0; clear HL364_0; clear HR364_0; clear HB; have HO_5 := n0_; have HO_7 := n1_; have HL348_0 := n2_; have HL349_0 := n3_; have HL352_0 := n4_; have HL353_0 := n5_; have HL356_0 := n6_; have HL359_0 := n7_; have HL364_0 := n8_; have HO367 := n9_; have HR364_0 := n10_; have HB := n11_; clear n0_ n1_ n2_ n3_ n4_ n5_ n6_ n7_ n8_ n9_ n10_ n11_; (try clear hb); (try clear hk); (try clear ho0); have p51 : 0 ≤ (x8_3 : Int) := of_decide_eq_true (by assumption); have q51 : (x8_3 : Int) < ((x7_3.length : Int) : Int) := of_decide_eq_true (by assumption); obtain ⟨ce51, hcl51, hM51, hcc51, hfr51⟩ := Kd.N_elem HO_7.out [] (x8_3 : Int) p51 q51; obtain ⟨ua51_0, uc51_0, rfl, ul51_0, ge51_0⟩ := Kd.FK_slice_open hM51; have hx51_0 := hcc51 0 _ rfl; have hf51_0 := hfr51 0; (try simp only [show ((Kd.slice 3 (Kd.int .i64))).sz = 1 from rfl, Nat.mul_one, Nat.add_zero] at hx51_0); (try simp only [show ((Kd.slice 3 (Kd.int .i64))).sz = 1 from rfl, Nat.mul_one, Nat.add_zero] at hf51_0); (try clear hM51); clear hcl51 hcc51 hfr51; replace p51 := eq_true p51; replace q51 := eq_true q51; obtain ⟨Ao69, co69, eo69⟩ := Kd.R_slice HO367.out; subst eo69; have n_ := Aside0.mk (Kd.N_mono (ok' := (fun k_ => (w.heap.size ≤ k_) ∧ some k_ ≠ (.slice (some ⟨go40, 0, none⟩) x5_3.length co52 : Value).ownBlock ∧ some k_ ≠ (.slice Ao69 t365.length co69 : Value).ownBlock)) HO_7.out (fun k_ hk => ⟨hk.1.1.1, ⟨hk.1.2, hk.2⟩⟩)); clear HO_7; have HO_7 := n_; clear n_; have HX67 := Aside0.mk (show Kd.N (Kd.slice 3 (Kd.int .i64)) 32 w66 w.heap.size (fun k_ => (w.heap.size ≤ k_) ∧ some k_ ≠ (.slice (some ⟨go40, 0, none⟩) x5_3.length co52 : Value).ownBlock) (.slice (some ⟨go44, 0, none⟩) x7_3.length co57) y355 from (by exact Kd.N_mono HO_7.out (fun _ hk => ⟨hk.1, hk.2.1⟩))); obtain ⟨ce67, hcl67, hM67, hcc67, hfr67⟩ := Kd.N_elem HX67.out [] (x8_3 : Int) (of_decide_eq_true (by assumption)) (by have h_ : (x8_3 : Int) < ((x7_3.length : Int) : Int) := of_decide_eq_true (by assumption); first | exact h_ | (have e_ := (Kd.N_reads' HO_7.out).1; omega) | simpa using h_); obtain ⟨ua67_0, uc67_0, rfl, ul67_0, ge67_0⟩ := Kd.FK_slice_open hM67; have HP67 := Kd.N_seg HX67.out (x8_3 : Int) (of_decide_eq_true (by assumption)) (by have h_ : (x8_3 : Int) < ((x7_3.length : Int) : Int) := of_decide_eq_true (by assumption); first | exact h_ | (have e_ := (Kd.N_reads' HO_7.out).1; omega) | simpa using h_) (seg := [.slice Ao69 t365.length co69]) (j := 0) hcl67 hcc67 (show 1 ≤ 1 from by decide) (x' := t365) (Kd.FK_slice_mk (Kd.R_reads' (Kd.R_mono (ok' := (fun k_ => ((fun k_ => (w.heap.size ≤ k_) ∧ some k_ ≠ (.slice (some ⟨go40, 0, none⟩) x5_3.length co52 : Value).ownBlock)) k_ ∧ k_ ≠ go44)) (Kd.R_apart' (Kd.R_apart' (HO367.out) (Kd.N_typed HO_5.out) (by decide)) (Kd.N_typed HO_7.out) (by decide)) (fun k_ hk => ⟨⟨hk.1.1.1, hk.1.2⟩, fun e_ => (hk.2) (by rw [e_]; rfl)⟩))).2.1 (Kd.R_F (Kd.R_mono (ok' := (fun k_ => ((fun k_ => (w.heap.size ≤ k_) ∧ some k_ ≠ (.slice (some ⟨go40, 0, none⟩) x5_3.length co52 : Value).ownBlock)) k_ ∧ k_ ≠ go44)) (Kd.R_apart' (Kd.R_apart' (HO367.out) (Kd.N_typed HO_5.out) (by decide)) (Kd.N_typed HO_7.out) (by decide)) (fun k_ hk => ⟨⟨hk.1.1.1, hk.1.2⟩, fun e_ => (hk.2) (by rw [e_]; rfl)⟩)))) (fun _ hk => hk); have hx67_0 := hcc67 0 _ rfl; (try simp only [show ((Kd.slice 3 (Kd.int .i64))).sz = 1 from rfl, Nat.mul_one, Nat.add_zero] at hx67_0); have hf67_0 := hfr67 0; (try simp only [show ((Kd.slice 3 (Kd.int .i64))).sz = 1 from rfl, Nat.mul_one, Nat.add_zero] at hf67_0); (try clear hM67); clear hcl67 hcc67 hfr67; (try simp only [show ((Kd.slice 3 (Kd.int .i64))).sz = 1 from rfl, Nat.mul_one, Nat.add_zero] at HP67); (try simp only [show ((Kd.slice 3 (Kd.int .i64))).sz = 1 from rfl, Nat.mul_one, Nat.add_zero] at HP67)) | ((with_reducible refine gate_store (t := 32) (p := 127) rfl ?_); refine store_event (t := 32) (p := 127) (v := ?vo_w68) (w1 := (w66.setCell ⟨go44, (x8_3 : Int).toNat, none⟩ (.slice Ao69 t365.length co69))) ?hg ?ho ?hn ?hr ?_; (case ho => rfl); (case hg => rfl); (case hn => rfl); (case hr => first | (go_simp; done) | (go_simp; rfl)); intro w68 hw; have hg : w66.grownBy w68 (some go44) := (by rw [hw]; exact HP67.2); have hp_ : Kd.N (Kd.slice 3 (Kd.int .i64)) 32 w68 w.heap.size (fun k_ => (w.heap.size ≤ k_) ∧ some k_ ≠ (.slice (some ⟨go40, 0, none⟩) x5_3.length co52 : Value).ownBlock) (.slice (some ⟨go44, 0, none⟩) x7_3.length co57) y368 := (by rw [hw, Ny368.out]; exact HP67.1); clear HP67; have n0_ := Aside0.mk (Kd.N_afterv (v := (.slice (some ⟨go44, 0, none⟩) x7_3.length co57)) (v1 := (.slice (some ⟨go44, 0, none⟩) x7_3.length co57)) (ok := (fun k_ => (w.heap.size ≤ k_) ∧ some k_ ≠ (.slice Ao69 t365.length co69 : Value).ownBlock)) (by exact Kd.N_mono HO_5.out (fun _ hk => ⟨⟨hk.1.1, hk.2⟩, hk.1.2⟩)) hg (.inl rfl)); have n1_ := Aside0.mk (hp_); have n2_ := Aside0.mk (Kd.V_afterv (v := (.slice (some ⟨go44, 0, none⟩) x7_3.length co57)) (v1 := (.slice (some ⟨go44, 0, none⟩) x7_3.length co57)) (ok := (fun k_ => (w.heap.size ≤ k_) ∧ some k_ ≠ (.slice (some ⟨go40, 0, none⟩) x5_3.length co52 : Value).ownBlock ∧ some k_ ≠ (.slice Ao69 t365.length co69 : Value).ownBlock)) (by exact Kd.V_mono HL348_0.out (fun _ hk => by first | exact ⟨⟨hk.1.1.1, ⟨hk.1.2, hk.2⟩⟩, hk.1.1.2.1⟩ | (repeat' (first | exact hk.1 | exact hk.2 | exact hk.1.1 | exact hk.1.2 | exact hk.2.1 | exact hk.2.2 | exact hk.1.1.1 | exact hk.1.1.2 | exact hk.1.2.1 | exact hk.1.2.2 | exact hk.2.1.1 | exact hk.2.1.2 | exact hk.2.2.1 | exact hk.2.2.2 | exact hk.1.1.1.1 | exact hk.1.1.1.2 | exact hk.1.1.2.1 | exact hk.1.1.2.2 | exact hk.1.2.1.1 | exact hk.1.2.1.2 | exact hk.1.2.2.1 | exact hk.1.2.2.2 | exact hk.2.1.1.1 | exact hk.2.1.1.2 | exact hk.2.1.2.1 | exact hk.2.1.2.2 | exact hk.2.2.1.1 | exact hk.2.2.1.2 | exact hk.2.2.2.1 | exact hk.2.2.2.2 | constructor)))) hg (.inl rfl)); have n3_ := Aside0.mk (Kd.V_afterv (v := (.slice (some ⟨go44, 0, none⟩) x7_3.length co57)) (v1 := (.slice (some ⟨go44, 0, none⟩) x7_3.length co57)) (ok := (fun k_ => (w.heap.size ≤ k_) ∧ some k_ ≠ (.slice (some ⟨go40, 0, none⟩) x5_3.length co52 : Value).ownBlock ∧ some k_ ≠ (.slice Ao69 t365.length co69 : Value).ownBlock)) (by exact Kd.V_mono HL349_0.out (fun _ hk => by first | exact ⟨⟨hk.1.1.1, ⟨hk.1.2, hk.2⟩⟩, hk.1.1.2.1⟩ | (repeat' (first | exact hk.1 | exact hk.2 | exact hk.1.1 | exact hk.1.2 | exact hk.2.1 | exact hk.2.2 | exact hk.1.1.1 | exact hk.1.1.2 | exact hk.1.2.1 | exact hk.1.2.2 | exact hk.2.1.1 | exact hk.2.1.2 | exact hk.2.2.1 | exact hk.2.2.2 | exact hk.1.1.1.1 | exact hk.1.1.1.2 | exact hk.1.1.2.1 | exact hk.1.1.2.2 | exact hk.1.2.1.1 | exact hk.1.2.1.2 | exact hk.1.2.2.1 | exact hk.1.2.2.2 | exact hk.2.1.1.1 | exact hk.2.1.1.2 | exact hk.2.1.2.1 | exact hk.2.1.2.2 | exact hk.2.2.1.1 | exact hk.2.2.1.2 | exact hk.2.2.2.1 | exact hk.2.2.2.2 | constructor)))) hg (.inl rfl)); have n4_ := Aside0.mk (Kd.V_afterv (v := (.slice (some ⟨go44, 0, none⟩) x7_3.length co57)) (v1 := (.slice (some ⟨go44, 0, none⟩) x7_3.length co57)) (ok := (fun k_ => (w.heap.size ≤ k_) ∧ some k_ ≠ (.slice (some ⟨go40, 0, none⟩) x5_3.length co52 : Value).ownBlock ∧ some k_ ≠ (.slice Ao69 t365.length co69 : Value).ownBlock)) (by exact Kd.V_mono HL352_0.out (fun _ hk => by first | exact ⟨⟨hk.1.1.1, ⟨hk.1.2, hk.2⟩⟩, hk.1.1.2.1⟩ | (repeat' (first | exact hk.1 | exact hk.2 | exact hk.1.1 | exact hk.1.2 | exact hk.2.1 | exact hk.2.2 | exact hk.1.1.1 | exact hk.1.1.2 | exact hk.1.2.1 | exact hk.1.2.2 | exact hk.2.1.1 | exact hk.2.1.2 | exact hk.2.2.1 | exact hk.2.2.2 | exact hk.1.1.1.1 | exact hk.1.1.1.2 | exact hk.1.1.2.1 | exact hk.1.1.2.2 | exact hk.1.2.1.1 | exact hk.1.2.1.2 | exact hk.1.2.2.1 | exact hk.1.2.2.2 | exact hk.2.1.1.1 | exact hk.2.1.1.2 | exact hk.2.1.2.1 | exact hk.2.1.2.2 | exact hk.2.2.1.1 | exact hk.2.2.1.2 | exact hk.2.2.2.1 | exact hk.2.2.2.2 | constructor)))) hg (.inl rfl)); have n5_ := Aside0.mk (Kd.V_afterv (v := (.slice (some ⟨go44, 0, none⟩) x7_3.length co57)) (v1 := (.slice (some ⟨go44, 0, none⟩) x7_3.length co57)) (ok := (fun k_ => (w.heap.size ≤ k_) ∧ some k_ ≠ (.slice (some ⟨go40, 0, none⟩) x5_3.length co52 : Value).ownBlock ∧ some k_ ≠ (.slice Ao69 t365.length co69 : Value).ownBlock)) (by exact Kd.V_mono HL353_0.out (fun _ hk => by first | exact ⟨⟨hk.1.1.1, ⟨hk.1.2, hk.2⟩⟩, hk.1.1.2.1⟩ | (repeat' (first | exact hk.1 | exact hk.2 | exact hk.1.1 | exact hk.1.2 | exact hk.2.1 | exact hk.2.2 | exact hk.1.1.1 | exact hk.1.1.2 | exact hk.1.2.1 | exact hk.1.2.2 | exact hk.2.1.1 | exact hk.2.1.2 | exact hk.2.2.1 | exact hk.2.2.2 | exact hk.1.1.1.1 | exact hk.1.1.1.2 | exact hk.1.1.2.1 | exact hk.1.1.2.2 | exact hk.1.2.1.1 | exact hk.1.2.1.2 | exact hk.1.2.2.1 | exact hk.1.2.2.2 | exact hk.2.1.1.1 | exact hk.2.1.1.2 | exact hk.2.1.2.1 | exact hk.2.1.2.2 | exact hk.2.2.1.1 | exact hk.2.2.1.2 | exact hk.2.2.2.1 | exact hk.2.2.2.2 | constructor)))) hg (.inl rfl)); have n6_ := Aside0.mk (Kd.V_afterv (v := (.slice (some ⟨go44, 0, none⟩) x7_3.length co57)) (v1 := (.slice (some ⟨go44, 0, none⟩) x7_3.length co57)) (ok := (fun k_ => (w.heap.size ≤ k_) ∧ some k_ ≠ (.slice (some ⟨go40, 0, none⟩) x5_3.length co52 : Value).ownBlock ∧ some k_ ≠ (.slice Ao69 t365.length co69 : Value).ownBlock)) (by exact Kd.V_mono HL356_0.out (fun _ hk => by first | exact ⟨⟨hk.1.1.1, ⟨hk.1.2, hk.2⟩⟩, hk.1.1.2.1⟩ | (repeat' (first | exact hk.1 | exact hk.2 | exact hk.1.1 | exact hk.1.2 | exact hk.2.1 | exact hk.2.2 | exact hk.1.1.1 | exact hk.1.1.2 | exact hk.1.2.1 | exact hk.1.2.2 | exact hk.2.1.1 | exact hk.2.1.2 | exact hk.2.2.1 | exact hk.2.2.2 | exact hk.1.1.1.1 | exact hk.1.1.1.2 | exact hk.1.1.2.1 | exact hk.1.1.2.2 | exact hk.1.2.1.1 | exact hk.1.2.1.2 | exact hk.1.2.2.1 | exact hk.1.2.2.2 | exact hk.2.1.1.1 | exact hk.2.1.1.2 | exact hk.2.1.2.1 | exact hk.2.1.2.2 | exact hk.2.2.1.1 | exact hk.2.2.1.2 | exact hk.2.2.2.1 | exact hk.2.2.2.2 | constructor)))) hg (.inl rfl)); have n7_ := Aside0.mk (Kd.V_afterv (v := (.slice (some ⟨go44, 0, none⟩) x7_3.length co57)) (v1 := (.slice (some ⟨go44, 0, none⟩) x7_3.length co57)) (ok := (fun k_ => (w.heap.size ≤ k_) ∧ some k_ ≠ (.slice (some ⟨go40, 0, none⟩) x5_3.length co52 : Value).ownBlock ∧ some k_ ≠ (.slice Ao69 t365.length co69 : Value).ownBlock)) (by exact Kd.V_mono HL359_0.out (fun _ hk => by first | exact ⟨⟨hk.1.1.1, ⟨hk.1.2, hk.2⟩⟩, hk.1.1.2.1⟩ | (repeat' (first | exact hk.1 | exact hk.2 | exact hk.1.1 | exact hk.1.2 | exact hk.2.1 | exact hk.2.2 | exact hk.1.1.1 | exact hk.1.1.2 | exact hk.1.2.1 | exact hk.1.2.2 | exact hk.2.1.1 | exact hk.2.1.2 | exact hk.2.2.1 | exact hk.2.2.2 | exact hk.1.1.1.1 | exact hk.1.1.1.2 | exact hk.1.1.2.1 | exact hk.1.1.2.2 | exact hk.1.2.1.1 | exact hk.1.2.1.2 | exact hk.1.2.2.1 | exact hk.1.2.2.2 | exact hk.2.1.1.1 | exact hk.2.1.1.2 | exact hk.2.1.2.1 | exact hk.2.1.2.2 | exact hk.2.2.1.1 | exact hk.2.2.1.2 | exact hk.2.2.2.1 | exact hk.2.2.2.2 | constructor)))) hg (.inl rfl)); have n8_ := Aside0.mk (Kd.V_afterv (v := (.slice (some ⟨go44, 0, none⟩) x7_3.length co57)) (v1 := (.slice (some ⟨go44, 0, none⟩) x7_3.length co57)) (ok := (fun k_ => (w.heap.size ≤ k_) ∧ some k_ ≠ (.slice (some ⟨go40, 0, none⟩) x5_3.length co52 : Value).ownBlock ∧ some k_ ≠ (.slice Ao69 t365.length co69 : Value).ownBlock)) (by exact Kd.V_mono HL364_0.out (fun _ hk => by first | exact ⟨⟨hk.1.1.1.1, ⟨hk.1.1.2, hk.2⟩⟩, hk.1.2⟩ | (repeat' (first | exact hk.1 | exact hk.2 | exact hk.1.1 | exact hk.1.2 | exact hk.2.1 | exact hk.2.2 | exact hk.1.1.1 | exact hk.1.1.2 | exact hk.1.2.1 | exact hk.1.2.2 | exact hk.2.1.1 | exact hk.2.1.2 | exact hk.2.2.1 | exact hk.2.2.2 | exact hk.1.1.1.1 | exact hk.1.1.1.2 | exact hk.1.1.2.1 | exact hk.1.1.2.2 | exact hk.1.2.1.1 | exact hk.1.2.1.2 | exact hk.1.2.2.1 | exact hk.1.2.2.2 | exact hk.2.1.1.1 | exact hk.2.1.1.2 | exact hk.2.1.2.1 | exact hk.2.1.2.2 | exact hk.2.2.1.1 | exact hk.2.2.1.2 | exact hk.2.2.2.1 | exact hk.2.2.2.2 | constructor)))) hg (.inl rfl)); have n9_ := Aside0.mk ((by rw [hw]; exact below_set (HB.out) GB44.out : Below w.heap.size w w68)); clear HO_5; clear HO_7; clear HL348_0; clear HL349_0; clear HL352_0; clear HL353_0; clear HL356_0; clear HL359_0; clear HL364_0; clear HB; clear HO367; have HO_5 := n0_; have HO_7 := n1_; have HL348_0 := n2_; have HL349_0 := n3_; have HL352_0 := n4_; have HL353_0 := n5_; have HL356_0 := n6_; have HL359_0 := n7_; have HL364_0 := n8_; have HB := n9_; clear n0_ n1_ n2_ n3_ n4_ n5_ n6_ n7_ n8_ n9_; clear hg hw hp_))
                    go_loopg [13] kj23 (fun kq v13 w' => ∃ (x5_5 : List (List Int)) (x7_5 : List (List Int)) (x13_5 : Int), v13 = .int .i64 x13_5 ∧ Aside0 (spec_InvM.l3 kq (l0.length : Int) x5_5 x7_5 x8_3 x13_5 = some (r1, r2)) ∧ Aside0 (kq ≤ kj23) ∧ Aside0 (Kd.N (Kd.slice 3 (Kd.int .i64)) 32 w' w.heap.size (fun k_ => (w.heap.size ≤ k_) ∧ some k_ ≠ ((.slice (some ⟨go44, 0, none⟩) x7_3.length co57) : Value).ownBlock) (.slice (some ⟨go40, 0, none⟩) x5_3.length co52) x5_5) ∧ Aside0 (Kd.N (Kd.slice 3 (Kd.int .i64)) 32 w' w.heap.size (fun k_ => (w.heap.size ≤ k_) ∧ some k_ ≠ ((.slice (some ⟨go40, 0, none⟩) x5_3.length co52) : Value).ownBlock) (.slice (some ⟨go44, 0, none⟩) x7_3.length co57) x7_5) ∧ Aside0 (Below w.heap.size w w'))
                    case atStart => exact ⟨(y363), (y368), (0), (by first | rfl | (simp; done) | (simp [*]; done)), H', ⟨Nat.le_refl _⟩, ⟨by exact Kd.N_mono HO_5.out (fun _ hk => ⟨hk.1.1, hk.2⟩)⟩, ⟨by exact HO_7.out⟩, ⟨by repeat (first | exact HB.out | apply below_alloc | apply pw_below_drewN | apply below_drew1)⟩⟩
                    case round =>
                     clear H'
                     obtain ⟨x5_5, x7_5, x13_5, rfl, HA, HK5, HO_5, HO_7, HB⟩ := hrel
                     have hl5_5 := (Kd.N_reads' HO_5.out).1
                     rw [hl5_5] at HO_5
                     (try simp only [hl5_5])
                     (try simp only [hl5_5] at HO_7)
                     have hl7_5 := (Kd.N_reads' HO_7.out).1
                     rw [hl7_5] at HO_7
                     (try simp only [hl7_5])
                     (try simp only [hl7_5] at HO_5)
                     cases gk with
                     | zero => exact absurd HA.out (by simp [spec_InvM.l3])
                     | succ k5 =>
                      have H := HA.out
                      clear HA
                      simp only [spec_InvM.l3] at H
                      by_cases c70 : x13_5 < (l0.length : Int)
                      ·rw [if_pos c70] at H
                       have c70b0 : decide (x13_5 < (l0.length : Int)) = true := decide_eq_true c70
                       clear c70
                       have HC71 := Aside0.mk H
                       clear H
                       go_upto_region 30 with (fail)
                       go_cut [145] (fun v145 wc => ∃ (kq : Nat) (x145_70 : Bool), v145 = .bool x145_70 ∧ Aside0 (spec_InvM.j6 kq (l0.length : Int) x5_5 x7_5 x8_3 x13_5 x145_70 = some (r1, r2)) ∧ Aside0 (kq ≤ k5) ∧ Aside0 (Kd.N (Kd.slice 3 (Kd.int .i64)) 32 wc w.heap.size (fun k_ => (w.heap.size ≤ k_) ∧ some k_ ≠ ((.slice (some ⟨go44, 0, none⟩) x7_5.length co57) : Value).ownBlock) (.slice (some ⟨go40, 0, none⟩) x5_5.length co52) x5_5) ∧ Aside0 (Kd.N (Kd.slice 3 (Kd.int .i64)) 32 wc w.heap.size (fun k_ => (w.heap.size ≤ k_) ∧ some k_ ≠ ((.slice (some ⟨go40, 0, none⟩) x5_5.length co52) : Value).ownBlock) (.slice (some ⟨go44, 0, none⟩) x7_5.length co57) x7_5) ∧ Aside0 (Below w.heap.size w wc))
                       case first =>
                        have H := HC71.out
                        clear HC71
                        by_cases c72 : x13_5 = x8_3
                        ·rw [if_pos c72] at H
                         have c72b0 : (x13_5 == x8_3) = true := beq_iff_eq.mpr c72
                         have c72b1 : (x13_5 != x8_3) = false := bne_eq_false_iff_eq.mpr c72
                         clear c72
                         (first | rw [c72b0] | (simp only [i64_w, i32_w]; rw [c72b0]) | rw [c72b1] | skip)
                         have H' := Aside0.mk H
                         clear H
                         go_wp2
                         go_meet
                         case rel => exact ⟨_, (false), (by first | rfl | (simp; done) | (simp [*]; done)), H', ⟨by have := HJ1.out; have := HK2.out; have := HK3.out; have := HJ23.out; have := HK5.out; first | omega | exact Nat.le_refl _⟩, ⟨by (try simp only [hl5_5]); (try simp only [hl7_5]); exact HO_5.out⟩, ⟨by (try simp only [hl5_5]); (try simp only [hl7_5]); exact HO_7.out⟩, ⟨by repeat (first | exact HB.out | apply below_alloc | apply pw_below_drewN | apply below_drew1)⟩⟩
                        ·rw [if_neg c72] at H
                         have c72b0 : (x13_5 == x8_3) = false := beq_eq_false_iff_ne.mpr c72
                         have c72b1 : (x13_5 != x8_3) = true := bne_iff_ne.mpr c72
                         (first | rw [c72b0] | (simp only [i64_w, i32_w]; rw [c72b0]) | rw [c72b1] | skip)
                         by_cases c73 : 0 ≤ x13_5
                         ·rw [if_pos c73] at H
                          have c73b0 : decide (0 ≤ x13_5) = true := decide_eq_true c73
                          clear c73
                          by_cases c74 : x13_5 < (x5_5.length : Int)
                          ·rw [if_pos c74] at H
                           have c74b0 : decide (x13_5 < (x5_5.length : Int)) = true := decide_eq_true c74
                           clear c74
                           by_cases c75 : 0 ≤ x8_3
                           ·rw [if_pos c75] at H
                            have c75b0 : decide (0 ≤ x8_3) = true := decide_eq_true c75
                            clear c75
                            by_cases c76 : x8_3 < ((rd_L1 x5_5 x13_5).length : Int)
                            ·rw [if_pos c76] at H
                             have c76b0 : decide (x8_3 < ((rd_L1 x5_5 x13_5).length : Int)) = true := decide_eq_true c76
                             clear c76
                             have H' := Aside0.mk H
                             clear H
                             have p369 : 0 ≤ (x13_5 : Int) := of_decide_eq_true (by assumption)
                             have q369 : x13_5 < (x5_5.length : Int) := of_decide_eq_true (by assumption)
                             obtain ⟨ad369, A369_0, c369_0, e369, hx369_0, hl369_0, hi369_0⟩ := at_L1 (Kd.N_reads' HO_5.out).2.2 x13_5 p369 q369
                             obtain rfl : (⟨go40, 0, none⟩ : Addr) = ad369 := (by injection e369)
                             obtain ⟨ce369, hce369, hMe369, hcc369⟩ := Kd.N_get HO_5.out [] x13_5 p369 (by first | exact q369 | exact of_decide_eq_true (by assumption) | (have e_ := (Kd.N_reads' HO_5.out).1; omega))
                             obtain ⟨ua369_0, uc369_0, rfl, ul369_0, ge369_0⟩ := Kd.FK_slice_open hMe369
                             have hv369_0 := hcc369 0 _ rfl
                             rw [Nat.add_zero, show ((Kd.slice 3 (Kd.int .i64))).sz = 1 from rfl, Nat.mul_one] at hv369_0
                             replace hv369_0 := Option.some.inj (hv369_0.symm.trans hx369_0)
                             injection hv369_0 with hva_ hvn_ hvc_
                             rw [hva_] at ge369_0
                             rw [hvc_] at ul369_0
                             have HL369_0 := Aside0.mk (show Kd.V (Kd.int .i64) 3 _ w.heap.size _ _ (rd_L1 x5_5 x13_5) from Kd.V_mk ul369_0 ge369_0)
                             clear hva_ hvn_ hvc_ ge369_0 ul369_0
                             clear hcc369 hce369
                             (first | simp only [add_plain] at hx369_0 | simp only [add_at] at hx369_0 | simp only [Addr.add, Nat.zero_add] at hx369_0 | skip)
                             have HR369_0 := Aside0.mk hi369_0
                             have HC369_0 := Aside0.mk hl369_0
                             clear hi369_0 hl369_0
                             replace p369 := eq_true p369
                             replace q369 := eq_true q369
                             have p370 : 0 ≤ (x8_3 : Int) := of_decide_eq_true (by assumption)
                             have q370 : x8_3 < ((rd_L1 x5_5 x13_5).length : Int) := of_decide_eq_true (by assumption)
                             obtain ⟨ad370, e370, hx370_0⟩ := Kd.at_int (by repeat (first | (with_reducible exact HR369_0.out) | (with_reducible refine Kd.C_alloc ?_ _) | (with_reducible refine Kd.C_drewN ?_ _) | (with_reducible refine Kd.C_drew ?_) | exact HR369_0.out)) x8_3 p370 q370
                             cases e370
                             replace p370 := eq_true p370
                             replace q370 := eq_true q370
                             go_wp2
                             go_meet
                             case rel => exact ⟨_, (((rd (rd_L1 x5_5 x13_5) x8_3) != 0)), (by first | rfl | (simp; done) | (simp [*]; done)), H', ⟨by have := HJ1.out; have := HK2.out; have := HK3.out; have := HJ23.out; have := HK5.out; first | omega | exact Nat.le_refl _⟩, ⟨by (try simp only [hl5_5]); (try simp only [hl7_5]); exact HO_5.out⟩, ⟨by (try simp only [hl5_5]); (try simp only [hl7_5]); exact HO_7.out⟩, ⟨by repeat (first | exact HB.out | apply below_alloc | apply pw_below_drewN | apply below_drew1)⟩⟩
                            ·rw [if_neg c76] at H
                             exact absurd H (by simp)
                           ·rw [if_neg c75] at H
                            exact absurd H (by simp)
                          ·rw [if_neg c74] at H
                           exact absurd H (by simp)
                         ·rw [if_neg c73] at H
                          exact absurd H (by simp)
                       case rest =>
                        clear HC71
                        obtain ⟨kq, x145_70, rfl, HA, HJ70, HO_5, HO_7, HB⟩ := hcut
                        cases kq with
                        | zero => exact absurd HA.out (by simp [spec_InvM.j6])
                        | succ kj70 =>
                         have H := HA.out
                         clear HA
                         simp only [spec_InvM.j6] at H
                         by_cases c77 : x145_70 = true
                         ·subst c77
                          have H1 : (if 0 ≤ x13_5 then (if x13_5 < (x5_5.length : Int) then (if 0 ≤ x8_3 then (if x8_3 < ((rd_L1 x5_5 x13_5).length : Int) then (if x8_3 < (x5_5.length : Int) then ((spec_l06Row.f kj70 (rd_L1 x5_5 x13_5) (rd_L1 x5_5 x8_3) (rd (rd_L1 x5_5 x13_5) x8_3)).bind fun t375 => (if x13_5 < (x7_5.length : Int) then (if x8_3 < (x7_5.length : Int) then ((spec_l06Row.f kj70 (rd_L1 x7_5 x13_5) (rd_L1 x7_5 x8_3) (rd (rd_L1 x5_5 x13_5) x8_3)).bind fun t381 => (spec_InvM.l3 kj70 (l0.length : Int) (x5_5.set (x13_5 : Int).toNat t375) (x7_5.set (x13_5 : Int).toNat t381) x8_3 (wrap64 (x13_5 + 1)))) else (none)) else (none))) else (none)) else (none)) else (none)) else (none)) else (none)) = some (r1, r2) := by rw [if_pos rfl] at H; exact H
                          clear H
                          have H := H1
                          clear H1
                          by_cases c78 : 0 ≤ x13_5
                          ·rw [if_pos c78] at H
                           have c78b0 : decide (0 ≤ x13_5) = true := decide_eq_true c78
                           clear c78
                           by_cases c79 : x13_5 < (x5_5.length : Int)
                           ·rw [if_pos c79] at H
                            have c79b0 : decide (x13_5 < (x5_5.length : Int)) = true := decide_eq_true c79
                            clear c79
                            by_cases c80 : 0 ≤ x8_3
                            ·rw [if_pos c80] at H
                             have c80b0 : decide (0 ≤ x8_3) = true := decide_eq_true c80
                             clear c80
                             by_cases c81 : x8_3 < ((rd_L1 x5_5 x13_5).length : Int)
                             ·rw [if_pos c81] at H
                              have c81b0 : decide (x8_3 < ((rd_L1 x5_5 x13_5).length : Int)) = true := decide_eq_true c81
                              clear c81
                              by_cases c82 : x8_3 < (x5_5.length : Int)
                              ·rw [if_pos c82] at H
                               have c82b0 : decide (x8_3 < (x5_5.length : Int)) = true := decide_eq_true c82
                               clear c82
                               replace H := Option.bind_eq_some_iff.mp H
                               obtain ⟨t375, A830, H⟩ := H
                               replace H : (if x13_5 < (x7_5.length : Int) then (if x8_3 < (x7_5.length : Int) then ((spec_l06Row.f kj70 (rd_L1 x7_5 x13_5) (rd_L1 x7_5 x8_3) (rd (rd_L1 x5_5 x13_5) x8_3)).bind fun t381 => (spec_InvM.l3 kj70 (l0.length : Int) (x5_5.set (x13_5 : Int).toNat t375) (x7_5.set (x13_5 : Int).toNat t381) x8_3 (wrap64 (x13_5 + 1)))) else (none)) else (none)) = some (r1, r2) := H
                               have A83 := Aside0.mk A830
                               clear A830
                               obtain ⟨y378, hy378⟩ : ∃ y_ : List (List Int), y_ = (x5_5.set (x13_5 : Int).toNat t375) := ⟨_, rfl⟩
                               replace H : (if x13_5 < (x7_5.length : Int) then (if x8_3 < (x7_5.length : Int) then ((spec_l06Row.f kj70 (rd_L1 x7_5 x13_5) (rd_L1 x7_5 x8_3) (rd (rd_L1 x5_5 x13_5) x8_3)).bind fun t381 => (spec_InvM.l3 kj70 (l0.length : Int) y378 (x7_5.set (x13_5 : Int).toNat t381) x8_3 (wrap64 (x13_5 + 1)))) else (none)) else (none)) = some (r1, r2) := by first | (rw [hy378]; with_reducible exact H) | (have H2_ := (Option.bind_some _ _).symm.trans H; rw [hy378]; with_reducible exact H2_) | (have H2_ := (Option.bind_some _ _).symm.trans H; with_reducible exact H2_) | with_reducible exact H | (rw [hy378]; exact H) | exact H
                               have Ny378 := Aside0.mk hy378
                               clear hy378
                               by_cases c85 : x13_5 < (x7_5.length : Int)
                               ·rw [if_pos c85] at H
                                have c85b0 : decide (x13_5 < (x7_5.length : Int)) = true := decide_eq_true c85
                                clear c85
                                by_cases c86 : x8_3 < (x7_5.length : Int)
                                ·rw [if_pos c86] at H
                                 have c86b0 : decide (x8_3 < (x7_5.length : Int)) = true := decide_eq_true c86
                                 clear c86
                                 replace H := Option.bind_eq_some_iff.mp H
                                 obtain ⟨t381, A870, H⟩ := H
                                 replace H : (spec_InvM.l3 kj70 (l0.length : Int) y378 (x7_5.set (x13_5 : Int).toNat t381) x8_3 (wrap64 (x13_5 + 1))) = some (r1, r2) := H
                                 have A87 := Aside0.mk A870
                                 clear A870
                                 obtain ⟨y384, hy384⟩ : ∃ y_ : List (List Int), y_ = (x7_5.set (x13_5 : Int).toNat t381) := ⟨_, rfl⟩
                                 replace H : (spec_InvM.l3 kj70 (l0.length : Int) y378 y384 x8_3 (wrap64 (x13_5 + 1))) = some (r1, r2) := by first | (rw [hy384]; with_reducible exact H) | (have H2_ := (Option.bind_some _ _).symm.trans H; rw [hy384]; with_reducible exact H2_) | (have H2_ := (Option.bind_some _ _).symm.trans H; with_reducible exact H2_) | with_reducible exact H | (rw [hy384]; exact H) | exact H
                                 have Ny384 := Aside0.mk hy384
                                 clear hy384
                                 have H' := Aside0.mk H
                                 clear H
                                 have p371 : 0 ≤ (x13_5 : Int) := of_decide_eq_true (by assumption)
                                 have q371 : x13_5 < (x5_5.length : Int) := of_decide_eq_true (by assumption)
                                 obtain ⟨ad371, A371_0, c371_0, e371, hx371_0, hl371_0, hi371_0⟩ := at_L1 (Kd.N_reads' HO_5.out).2.2 x13_5 p371 q371
                                 obtain rfl : (⟨go40, 0, none⟩ : Addr) = ad371 := (by injection e371)
                                 obtain ⟨ce371, hce371, hMe371, hcc371⟩ := Kd.N_get HO_5.out [] x13_5 p371 (by first | exact q371 | exact of_decide_eq_true (by assumption) | (have e_ := (Kd.N_reads' HO_5.out).1; omega))
                                 obtain ⟨ua371_0, uc371_0, rfl, ul371_0, ge371_0⟩ := Kd.FK_slice_open hMe371
                                 have hv371_0 := hcc371 0 _ rfl
                                 rw [Nat.add_zero, show ((Kd.slice 3 (Kd.int .i64))).sz = 1 from rfl, Nat.mul_one] at hv371_0
                                 replace hv371_0 := Option.some.inj (hv371_0.symm.trans hx371_0)
                                 injection hv371_0 with hva_ hvn_ hvc_
                                 rw [hva_] at ge371_0
                                 rw [hvc_] at ul371_0
                                 have HL371_0 := Aside0.mk (show Kd.V (Kd.int .i64) 3 _ w.heap.size _ _ (rd_L1 x5_5 x13_5) from Kd.V_mk ul371_0 ge371_0)
                                 clear hva_ hvn_ hvc_ ge371_0 ul371_0
                                 clear hcc371 hce371
                                 (first | simp only [add_plain] at hx371_0 | simp only [add_at] at hx371_0 | simp only [Addr.add, Nat.zero_add] at hx371_0 | skip)
                                 have HR371_0 := Aside0.mk hi371_0
                                 have HC371_0 := Aside0.mk hl371_0
                                 clear hi371_0 hl371_0
                                 replace p371 := eq_true p371
                                 replace q371 := eq_true q371
                                 have p372 : 0 ≤ (x8_3 : Int) := of_decide_eq_true (by assumption)
                                 have q372 : x8_3 < ((rd_L1 x5_5 x13_5).length : Int) := of_decide_eq_true (by assumption)
                                 obtain ⟨ad372, e372, hx372_0⟩ := Kd.at_int (by repeat (first | (with_reducible exact HR371_0.out) | (with_reducible refine Kd.C_alloc ?_ _) | (with_reducible refine Kd.C_drewN ?_ _) | (with_reducible refine Kd.C_drew ?_) | exact HR371_0.out)) x8_3 p372 q372
                                 cases e372
                                 replace p372 := eq_true p372
                                 replace q372 := eq_true q372
                                 try go_wp2
                                 have n0_ := Aside0.mk (Kd.N_drew HO_5.out)
                                 have n1_ := Aside0.mk (Kd.N_drew HO_7.out)
                                 have n2_ := Aside0.mk (Kd.V_drew HL371_0.out)
                                 have n3_ := Aside0.mk (Kd.C_drew HR371_0.out)
                                 have n4_ := Aside0.mk (below_drew1 HB.out)
                                 clear HO_5
                                 clear HO_7
                                 clear HL371_0
                                 clear HR371_0
                                 clear HB
                                 have HO_5 := n0_
                                 have HO_7 := n1_
                                 have HL371_0 := n2_
                                 have HR371_0 := n3_
                                 have HB := n4_
                                 clear n0_ n1_ n2_ n3_ n4_
                                 have p373 : 0 ≤ (x13_5 : Int) := of_decide_eq_true (by assumption)
                                 have q373 : x13_5 < (x5_5.length : Int) := of_decide_eq_true (by assumption)
                                 obtain ⟨ad373, A373_0, c373_0, e373, hx373_0, hl373_0, hi373_0⟩ := at_L1 (Kd.N_reads' HO_5.out).2.2 x13_5 p373 q373
                                 obtain rfl : (⟨go40, 0, none⟩ : Addr) = ad373 := (by injection e373)
                                 obtain ⟨ce373, hce373, hMe373, hcc373⟩ := Kd.N_get HO_5.out [] x13_5 p373 (by first | exact q373 | exact of_decide_eq_true (by assumption) | (have e_ := (Kd.N_reads' HO_5.out).1; omega))
                                 obtain ⟨ua373_0, uc373_0, rfl, ul373_0, ge373_0⟩ := Kd.FK_slice_open hMe373
                                 have hv373_0 := hcc373 0 _ rfl
                                 rw [Nat.add_zero, show ((Kd.slice 3 (Kd.int .i64))).sz = 1 from rfl, Nat.mul_one] at hv373_0
                                 replace hv373_0 := Option.some.inj (hv373_0.symm.trans hx373_0)
                                 injection hv373_0 with hva_ hvn_ hvc_
                                 rw [hva_] at ge373_0
                                 rw [hvc_] at ul373_0
                                 have HL373_0 := Aside0.mk (show Kd.V (Kd.int .i64) 3 _ w.heap.size _ _ (rd_L1 x5_5 x13_5) from Kd.V_mk ul373_0 ge373_0)
                                 clear hva_ hvn_ hvc_ ge373_0 ul373_0
                                 clear hcc373 hce373
                                 (first | simp only [add_plain] at hx373_0 | simp only [add_at] at hx373_0 | simp only [Addr.add, Nat.zero_add] at hx373_0 | skip)
                                 have HR373_0 := Aside0.mk hi373_0
                                 have HC373_0 := Aside0.mk hl373_0
                                 clear hi373_0 hl373_0
                                 replace p373 := eq_true p373
                                 replace q373 := eq_true q373
                                 have p374 : 0 ≤ (x8_3 : Int) := of_decide_eq_true (by assumption)
                                 have q374 : x8_3 < (x5_5.length : Int) := of_decide_eq_true (by assumption)
                                 obtain ⟨ad374, A374_0, c374_0, e374, hx374_0, hl374_0, hi374_0⟩ := at_L1 (Kd.N_reads' HO_5.out).2.2 x8_3 p374 q374
                                 obtain rfl : (⟨go40, 0, none⟩ : Addr) = ad374 := (by injection e374)
                                 obtain ⟨ce374, hce374, hMe374, hcc374⟩ := Kd.N_get HO_5.out [] x8_3 p374 (by first | exact q374 | exact of_decide_eq_true (by assumption) | (have e_ := (Kd.N_reads' HO_5.out).1; omega))
                                 obtain ⟨ua374_0, uc374_0, rfl, ul374_0, ge374_0⟩ := Kd.FK_slice_open hMe374
                                 have hv374_0 := hcc374 0 _ rfl
                                 rw [Nat.add_zero, show ((Kd.slice 3 (Kd.int .i64))).sz = 1 from rfl, Nat.mul_one] at hv374_0
                                 replace hv374_0 := Option.some.inj (hv374_0.symm.trans hx374_0)
                                 injection hv374_0 with hva_ hvn_ hvc_
                                 rw [hva_] at ge374_0
                                 rw [hvc_] at ul374_0
                                 have HL374_0 := Aside0.mk (show Kd.V (Kd.int .i64) 3 _ w.heap.size _ _ (rd_L1 x5_5 x8_3) from Kd.V_mk ul374_0 ge374_0)
                                 clear hva_ hvn_ hvc_ ge374_0 ul374_0
                                 clear hcc374 hce374
                                 (first | simp only [add_plain] at hx374_0 | simp only [add_at] at hx374_0 | simp only [Addr.add, Nat.zero_add] at hx374_0 | skip)
                                 have HR374_0 := Aside0.mk hi374_0
                                 have HC374_0 := Aside0.mk hl374_0
                                 clear hi374_0 hl374_0
                                 replace p374 := eq_true p374
                                 replace q374 := eq_true q374
                                 refine start_ (n := 14) (S := fun w' => w'.cell? ⟨go40, (x13_5).toNat, none⟩ = some (.slice A373_0 (rd_L1 x5_5 x13_5).length c373_0) ∧ w'.cell? ⟨go40, (x8_3).toNat, none⟩ = some (.slice A374_0 (rd_L1 x5_5 x8_3).length c374_0)) (ds := [13]) #[false, false, false, false, false, false, false, false, false, false, false, false, false, false] (by kernel_rfl) rfl rfl ⟨hx373_0, hx374_0⟩ (fun hHeld => ?_); refine with_tabW spec_InvM.tab32 spec_InvM.bits32 (fun HT_ HW_ => ?_)
                                 generalize wc.drew = w89 at HO_5 HO_7 HL371_0 HR371_0 HB HL373_0 HL374_0 HR373_0 HR374_0 hx373_0 hx374_0 hHeld ⊢
                                 refine pure_ (i := 0) (N := some 153) (v := ?_) (a' := ?_) #[true, false, false, false, false, false, false, false, false, false, false, false, false, false] rfl rfl (any_of HT_.out (by kernel_rfl)) (fun _ _ _ h => h) (Or.inl ⟨by rfl, ?_⟩) ?_ ?_
                                 rotate_left
                                 ·intro w'
                                  go_simp
                                  with_reducible rfl
                                 rotate_left
                                 ·simp only [Act.put, List.setIfInBounds_toArray, List.set_cons_zero, List.set_cons_succ, i64_w, i32_w]
                                  rfl
                                 refine pure_ (i := 1) (N := some 154) (v := ?_) (a' := ?_) #[true, true, false, false, false, false, false, false, false, false, false, false, false, false] rfl rfl (any_of HT_.out (by kernel_rfl)) (fun _ _ _ h => h) (Or.inl ⟨by rfl, ?_⟩) ?_ ?_
                                 rotate_left
                                 ·intro w'
                                  go_simp
                                  with_reducible rfl
                                 rotate_left
                                 ·simp only [Act.put, List.setIfInBounds_toArray, List.set_cons_zero, List.set_cons_succ, i64_w, i32_w]
                                  rfl
                                 refine pure_ (i := 2) (N := some 155) (v := ?_) (a' := ?_) #[true, true, true, false, false, false, false, false, false, false, false, false, false, false] rfl rfl (any_of HT_.out (by kernel_rfl)) (fun _ _ _ h => h) (Or.inl ⟨by rfl, ?_⟩) ?_ ?_
                                 rotate_left
                                 ·intro w'
                                  go_simp
                                  with_reducible rfl
                                 rotate_left
                                 ·simp only [Act.put, List.setIfInBounds_toArray, List.set_cons_zero, List.set_cons_succ, i64_w, i32_w]
                                  rfl
                                 refine pure_ (i := 3) (N := some 156) (v := ?_) (a' := ?_) #[true, true, true, true, false, false, false, false, false, false, false, false, false, false] rfl rfl (any_of HT_.out (by kernel_rfl)) (fun _ _ _ h => h) (Or.inl ⟨by rfl, ?_⟩) ?_ ?_
                                 rotate_left
                                 ·intro w'
                                  go_simp
                                  with_reducible rfl
                                 rotate_left
                                 ·simp only [Act.put, List.setIfInBounds_toArray, List.set_cons_zero, List.set_cons_succ, i64_w, i32_w]
                                  rfl
                                 refine pure_ (i := 4) (N := some 157) (v := ?_) (a' := ?_) #[true, true, true, true, true, false, false, false, false, false, false, false, false, false] rfl rfl (any_of HT_.out (by kernel_rfl)) (fun _ _ _ h => h) (Or.inl ⟨by rfl, ?_⟩) ?_ ?_
                                 rotate_left
                                 ·intro w'
                                  go_simp
                                  with_reducible rfl
                                 rotate_left
                                 ·simp only [Act.put, List.setIfInBounds_toArray, List.set_cons_zero, List.set_cons_succ, i64_w, i32_w]
                                  rfl
                                 refine pure_ (i := 6) (N := some 159) (v := ?_) (a' := ?_) #[true, true, true, true, true, false, true, false, false, false, false, false, false, false] rfl rfl (any_of HT_.out (by kernel_rfl)) (fun _ _ _ h => h) (Or.inl ⟨by rfl, ?_⟩) ?_ ?_
                                 rotate_left
                                 ·intro w'
                                  go_simp
                                  with_reducible rfl
                                 rotate_left
                                 ·simp only [Act.put, List.setIfInBounds_toArray, List.set_cons_zero, List.set_cons_succ, i64_w, i32_w]
                                  rfl
                                 refine pure_ (i := 7) (N := some 160) (v := ?_) (a' := ?_) #[true, true, true, true, true, false, true, true, false, false, false, false, false, false] rfl rfl (any_of HT_.out (by kernel_rfl)) (fun _ _ _ h => h) (Or.inl ⟨by rfl, ?_⟩) ?_ ?_
                                 rotate_left
                                 ·intro w'
                                  go_simp
                                  with_reducible rfl
                                 rotate_left
                                 ·simp only [Act.put, List.setIfInBounds_toArray, List.set_cons_zero, List.set_cons_succ, i64_w, i32_w]
                                  rfl
                                 refine pure_ (i := 8) (N := some 161) (v := ?_) (a' := ?_) #[true, true, true, true, true, false, true, true, true, false, false, false, false, false] rfl rfl (any_of HT_.out (by kernel_rfl)) (fun _ _ _ h => h) (Or.inl ⟨by rfl, ?_⟩) ?_ ?_
                                 rotate_left
                                 ·intro w'
                                  go_simp
                                  with_reducible rfl
                                 rotate_left
                                 ·simp only [Act.put, List.setIfInBounds_toArray, List.set_cons_zero, List.set_cons_succ, i64_w, i32_w]
                                  rfl
                                 refine pure_ (i := 10) (N := some 163) (v := ?_) (a' := ?_) #[true, true, true, true, true, false, true, true, true, false, true, false, false, false] rfl rfl (any_of HT_.out (by kernel_rfl)) (fun _ _ _ h => h) (Or.inl ⟨by rfl, ?_⟩) ?_ ?_
                                 rotate_left
                                 ·intro w'
                                  go_simp
                                  with_reducible rfl
                                 rotate_left
                                 ·simp only [Act.put, List.setIfInBounds_toArray, List.set_cons_zero, List.set_cons_succ, i64_w, i32_w]
                                  rfl
                                 refine take_ (i := 5) (N := some 158) (v := ?_) (a' := ?_) #[true, true, true, true, true, true, true, true, true, false, true, false, false, false] rfl rfl (take_ofW HT_.out HW_.out (by kernel_rfl)) (fun _ _ _ h => h) (Or.inl ⟨by rfl, ?_⟩) hHeld ?_ ?_
                                 rotate_left
                                 ·rintro w' ⟨s0, s1⟩
                                  go_simp
                                  with_reducible rfl
                                 rotate_left
                                 ·simp only [Act.put, List.setIfInBounds_toArray, List.set_cons_zero, List.set_cons_succ, i64_w, i32_w]
                                  rfl
                                 refine take_ (i := 9) (N := some 162) (v := ?_) (a' := ?_) #[true, true, true, true, true, true, true, true, true, true, true, false, false, false] rfl rfl (take_ofW HT_.out HW_.out (by kernel_rfl)) (fun _ _ _ h => h) (Or.inl ⟨by rfl, ?_⟩) hHeld ?_ ?_
                                 rotate_left
                                 ·rintro w' ⟨s0, s1⟩
                                  go_simp
                                  with_reducible rfl
                                 rotate_left
                                 ·simp only [Act.put, List.setIfInBounds_toArray, List.set_cons_zero, List.set_cons_succ, i64_w, i32_w]
                                  rfl
                                 refine one_ (i := 11) (N := some 164) #[true, true, true, true, true, true, true, true, true, true, true, true, false, false] rfl rfl (one_of HT_.out (by kernel_rfl)) (by decide) (fun K hK => ?_)
                                 refine goes_ Try.func59 (by kernel_rfl) rfl #[.slice A373_0 (rd_L1 x5_5 x13_5).length c373_0, .slice A374_0 (rd_L1 x5_5 x8_3).length c374_0, .int .i64 (rd (rd_L1 x5_5 x13_5) x8_3)] (by rfl) rfl rfl (by (try simp only [List.map_toArray, List.map_cons, List.map_nil]); first | done | rfl) ?_
                                 with_reducible refine (spec_l06Row.calls kj70 _ _ (rd_L1 x5_5 x13_5) _ _ (rd_L1 x5_5 x8_3) (rd (rd_L1 x5_5 x13_5) x8_3) t375 _ ?side1 ?side2 ?side3 ?side4 A83.out).mono ?_
                                 (case side1 => repeat (first | exact (by repeat (first | (with_reducible exact HR373_0.out) | (with_reducible refine Kd.C_alloc ?_ _) | (with_reducible refine Kd.C_drewN ?_ _) | (with_reducible refine Kd.C_drew ?_) | exact HR373_0.out)) | (with_reducible refine Kd.C_alloc ?_ _) | (with_reducible refine Kd.C_drewN ?_ _) | (with_reducible refine Kd.C_drew ?_)))
                                 (case side2 => exact HC373_0.out)
                                 (case side3 => repeat (first | exact (by repeat (first | (with_reducible exact HR374_0.out) | (with_reducible refine Kd.C_alloc ?_ _) | (with_reducible refine Kd.C_drewN ?_ _) | (with_reducible refine Kd.C_drew ?_) | exact HR374_0.out)) | (with_reducible refine Kd.C_alloc ?_ _) | (with_reducible refine Kd.C_drewN ?_ _) | (with_reducible refine Kd.C_drew ?_)))
                                 (case side4 => exact HC374_0.out)
                                 rintro e w90 ⟨v376, rfl, ho0, hb⟩
                                 have HS0_ := (hb.cell (World.block_lt_of_cell? _ _ (hHeld.1))).trans (hHeld.1)
                                 have HS1_ := (hb.cell (World.block_lt_of_cell? _ _ (hHeld.2))).trans (hHeld.2)
                                 refine ⟨_, rfl, ?_⟩
                                 have n0_ := Aside0.mk (Kd.N_elder' (by exact HO_5.out) (Kd.R_base ho0) hb)
                                 have n1_ := Aside0.mk (Kd.N_elder' (by exact HO_7.out) (Kd.R_base ho0) hb)
                                 have n2_ := Aside0.mk (Kd.V_elder' (by exact HL371_0.out) (Kd.R_base ho0) hb)
                                 have n3_ := Aside0.mk (Kd.V_elder' (by exact HL373_0.out) (Kd.R_base ho0) hb)
                                 have n4_ := Aside0.mk (Kd.V_elder' (by exact HL374_0.out) (Kd.R_base ho0) hb)
                                 have n5_ := Aside0.mk (Kd.R_lower (Kd.R_newM (M := fun k_ => (w.heap.size ≤ k_)) ho0 (below_size (by repeat (first | exact HB.out | apply below_alloc | apply pw_below_drewN | apply below_drew1))) (fun k_ h_ => h_)) (below_size (by repeat (first | exact HB.out | apply below_alloc | apply pw_below_drewN | apply below_drew1))))
                                 have n6_ := Aside0.mk (Kd.C_below (by repeat (first | (with_reducible exact HR371_0.out) | (with_reducible refine Kd.C_alloc ?_ _) | (with_reducible refine Kd.C_drewN ?_ _) | (with_reducible refine Kd.C_drew ?_) | exact HR371_0.out)) hb)
                                 have n7_ := Aside0.mk (Kd.C_below (by repeat (first | (with_reducible exact HR373_0.out) | (with_reducible refine Kd.C_alloc ?_ _) | (with_reducible refine Kd.C_drewN ?_ _) | (with_reducible refine Kd.C_drew ?_) | exact HR373_0.out)) hb)
                                 have n8_ := Aside0.mk (Kd.C_below (by repeat (first | (with_reducible exact HR374_0.out) | (with_reducible refine Kd.C_alloc ?_ _) | (with_reducible refine Kd.C_drewN ?_ _) | (with_reducible refine Kd.C_drew ?_) | exact HR374_0.out)) hb)
                                 have n9_ := Aside0.mk (below_step (by repeat (first | exact HB.out | apply below_alloc | apply pw_below_drewN | apply below_drew1)) hb)
                                 clear HO_5
                                 clear HO_7
                                 clear HL371_0
                                 clear HL373_0
                                 clear HL374_0
                                 clear HR371_0
                                 clear HR373_0
                                 clear HR374_0
                                 clear HB
                                 have HO_5 := n0_
                                 have HO_7 := n1_
                                 have HL371_0 := n2_
                                 have HL373_0 := n3_
                                 have HL374_0 := n4_
                                 have HO377 := n5_
                                 have HR371_0 := n6_
                                 have HR373_0 := n7_
                                 have HR374_0 := n8_
                                 have HB := n9_
                                 clear n0_ n1_ n2_ n3_ n4_ n5_ n6_ n7_ n8_ n9_
                                 (try clear hb)
                                 (try clear hb2)
                                 (try clear hk)
                                 (try clear hi)
                                 (try clear ho0)
                                 have p84 : 0 ≤ (x13_5 : Int) := of_decide_eq_true (by assumption)
                                 have q84 : (x13_5 : Int) < ((x5_5.length : Int) : Int) := of_decide_eq_true (by assumption)
                                 obtain ⟨ce84, hcl84, hM84, hcc84, hfr84⟩ := Kd.N_elem HO_5.out [] (x13_5 : Int) p84 q84
                                 obtain ⟨ua84_0, uc84_0, rfl, ul84_0, ge84_0⟩ := Kd.FK_slice_open hM84
                                 have hx84_0 := hcc84 0 _ rfl
                                 have hf84_0 := hfr84 0
                                 (try simp only [show ((Kd.slice 3 (Kd.int .i64))).sz = 1 from rfl, Nat.mul_one, Nat.add_zero] at hx84_0)
                                 (try simp only [show ((Kd.slice 3 (Kd.int .i64))).sz = 1 from rfl, Nat.mul_one, Nat.add_zero] at hf84_0)
                                 (try clear hM84); clear hcl84 hcc84 hfr84
                                 replace p84 := eq_true p84
                                 replace q84 := eq_true q84
                                 obtain ⟨Ao92, co92, eo92⟩ := Kd.R_slice HO377.out
                                 (first | subst eo92 | (injection eo92 with f1_ f2_ f3_; have f4_ := f1_.symm; have f5_ := f3_.symm; clear f1_ f2_ f3_; subst f4_; subst f5_))
                                 have HX91 := Aside0.mk (show Kd.N (Kd.slice 3 (Kd.int .i64)) 32 _ w.heap.size (fun k_ => (w.heap.size ≤ k_) ∧ some k_ ≠ (.slice (some ⟨go44, 0, none⟩) x7_5.length co57 : Value).ownBlock ∧ some k_ ≠ (.slice Ao92 t375.length co92 : Value).ownBlock) (.slice (some ⟨go40, 0, none⟩) x5_5.length co52) x5_5 from (Kd.N_mono (HO_5.out) (fun k_ hk => ⟨hk.1.1, ⟨hk.1.2, hk.2⟩⟩)))
                                 replace HX91 := Aside0.mk (show Kd.N (Kd.slice 3 (Kd.int .i64)) 32 _ w.heap.size (fun k_ => (w.heap.size ≤ k_) ∧ some k_ ≠ (.slice (some ⟨go44, 0, none⟩) x7_5.length co57 : Value).ownBlock) (.slice (some ⟨go40, 0, none⟩) x5_5.length co52) x5_5 from Kd.N_mono HX91.out (fun k_ hk => ⟨hk.1, hk.2.1⟩))
                                 obtain ⟨ce91, hcl91, hM91, hcc91, hfr91⟩ := Kd.N_elem HX91.out [] (x13_5 : Int) (of_decide_eq_true (by assumption)) (by have h_ : (x13_5 : Int) < ((x5_5.length : Int) : Int) := of_decide_eq_true (by assumption); first | exact h_ | (have e_ := (Kd.N_reads' HO_5.out).1; omega) | simpa using h_)
                                 obtain ⟨ua91_0, uc91_0, rfl, ul91_0, ge91_0⟩ := Kd.FK_slice_open hM91
                                 have HP91 := (Kd.N_seg HX91.out (x13_5 : Int) (of_decide_eq_true (by assumption)) (by have h_ : (x13_5 : Int) < ((x5_5.length : Int) : Int) := of_decide_eq_true (by assumption); first | exact h_ | (have e_ := (Kd.N_reads' HO_5.out).1; omega) | simpa using h_) (seg := [.slice Ao92 t375.length co92]) (j := 0) hcl91 hcc91 (show 1 ≤ 1 from by decide) (x' := t375) (Kd.FK_slice_mk (Kd.R_reads' (Kd.R_mono (ok' := (fun k_ => ((fun k_ => (w.heap.size ≤ k_) ∧ some k_ ≠ (.slice (some ⟨go44, 0, none⟩) x7_5.length co57 : Value).ownBlock)) k_ ∧ k_ ≠ go40)) (Kd.R_apart' (Kd.R_apart' (HO377.out) (Kd.N_typed HO_7.out) (by decide)) (Kd.N_typed HO_5.out) (by decide)) (fun k_ hk => ⟨⟨hk.1.1.1, hk.1.2⟩, fun e_ => (hk.2) (by rw [e_]; rfl)⟩))).2.1 (Kd.R_F (Kd.R_mono (ok' := (fun k_ => ((fun k_ => (w.heap.size ≤ k_) ∧ some k_ ≠ (.slice (some ⟨go44, 0, none⟩) x7_5.length co57 : Value).ownBlock)) k_ ∧ k_ ≠ go40)) (Kd.R_apart' (Kd.R_apart' (HO377.out) (Kd.N_typed HO_7.out) (by decide)) (Kd.N_typed HO_5.out) (by decide)) (fun k_ hk => ⟨⟨hk.1.1.1, hk.1.2⟩, fun e_ => (hk.2) (by rw [e_]; rfl)⟩)))) (fun _ hk => hk)).1
                                 (try simp only [show ((Kd.slice 3 (Kd.int .i64))).sz = 1 from rfl, Nat.mul_one, Nat.add_zero] at HP91)
                                 rw [← Ny378.out] at HP91
                                 have HQ91 := Aside0.mk HP91
                                 (try clear hM91); clear hcl91 hcc91 hfr91 HP91
                                 refine hK.out _ _ ⟨HS0_, HS1_⟩ (fun hHeld => ?_)
                                 clear hK K
                                 refine norm_ (a' := ?_) ?_ ?_
                                 rotate_left
                                 ·show Act.put _ (some 164) _ = _
                                  simp only [Act.put, List.setIfInBounds_toArray, List.set_cons_zero, List.set_cons_succ, i64_w, i32_w]
                                  rfl
                                 refine pure_ (i := 12) (N := some 165) (v := ?_) (a' := ?_) #[true, true, true, true, true, true, true, true, true, true, true, true, true, false] rfl rfl (any_of HT_.out (by kernel_rfl)) (fun _ _ _ h => h) (Or.inl ⟨by rfl, ?_⟩) ?_ ?_
                                 rotate_left
                                 ·intro w'
                                  go_simp
                                  with_reducible rfl
                                 rotate_left
                                 ·simp only [Act.put, List.setIfInBounds_toArray, List.set_cons_zero, List.set_cons_succ, i64_w, i32_w]
                                  rfl
                                 refine last_ (i := 13) (N := none) #[true, true, true, true, true, true, true, true, true, true, true, true, true, true] rfl rfl (one_of HT_.out (by kernel_rfl)) (by decide) (fun K hK => ?_)
                                 refine skip_ (w1 := ?_) (by rfl) rfl ?_ ?_
                                 rotate_left
                                 ·go_simp
                                  rfl
                                 refine hK.out _ _ ?_
                                 clear hK K
                                 refine done_ (done_of HT_.out (by kernel_rfl)) ?_
                                 try go_wp2
                                 have n0_ : Aside0 (Kd.N (Kd.slice 3 (Kd.int .i64)) 32 (w90.setCell ⟨go40, (x13_5 : Int).toNat, none⟩ (.slice Ao92 t375.length co92)) w.heap.size (fun k_ => (w.heap.size ≤ k_) ∧ some k_ ≠ (.slice (some ⟨go44, 0, none⟩) x7_5.length co57 : Value).ownBlock) (.slice (some ⟨go40, 0, none⟩) x5_5.length co52) y378) := ⟨by exact HQ91.out⟩
                                 have n1_ : Aside0 (Kd.N (Kd.slice 3 (Kd.int .i64)) 32 (w90.setCell ⟨go40, (x13_5 : Int).toNat, none⟩ (.slice Ao92 t375.length co92)) w.heap.size (fun k_ => (w.heap.size ≤ k_) ∧ some k_ ≠ (.slice (some ⟨go40, 0, none⟩) x5_5.length co52 : Value).ownBlock) (.slice (some ⟨go44, 0, none⟩) x7_5.length co57) x7_5) := ⟨by exact Kd.N_mono (Kd.N_far (p := ⟨go40, (x13_5 : Int).toNat, none⟩) (Kd.N_mono HO_7.out (fun k_ hk => (⟨hk, fun e_ => hk.1.2 (by rw [e_]; rfl)⟩ : _ ∧ k_ ≠ go40))) (fun _ hk => hk.2) (.slice Ao92 t375.length co92)) (fun _ hk => ⟨hk.1.1.1, hk.1.1.2⟩)⟩
                                 have n2_ : Aside0 (Kd.V (Kd.int .i64) 3 (w90.setCell ⟨go40, (x13_5 : Int).toNat, none⟩ (.slice Ao92 t375.length co92)) w.heap.size (fun k_ => (w.heap.size ≤ k_) ∧ some k_ ≠ (.slice (some ⟨go40, 0, none⟩) x5_5.length co52 : Value).ownBlock ∧ some k_ ≠ (.slice (some ⟨go44, 0, none⟩) x7_5.length co57 : Value).ownBlock) (.slice (some ad372) (rd_L1 x5_5 x13_5).length c371_0) (rd_L1 x5_5 x13_5)) := ⟨by exact Kd.V_mono (Kd.V_far (p := ⟨go40, (x13_5 : Int).toNat, none⟩) (Kd.V_mono HL371_0.out (fun k_ hk => (⟨hk, fun e_ => hk.1.2 (by rw [e_]; rfl)⟩ : _ ∧ k_ ≠ go40))) (fun _ hk => hk.2) (.slice Ao92 t375.length co92)) (fun _ hk => ⟨hk.1.1.1.1, ⟨hk.1.1.2, hk.1.1.1.2⟩⟩)⟩
                                 have n3_ : Aside0 (Kd.V (Kd.int .i64) 3 (w90.setCell ⟨go40, (x13_5 : Int).toNat, none⟩ (.slice Ao92 t375.length co92)) w.heap.size (fun k_ => (w.heap.size ≤ k_) ∧ some k_ ≠ (.slice (some ⟨go40, 0, none⟩) x5_5.length co52 : Value).ownBlock ∧ some k_ ≠ (.slice (some ⟨go44, 0, none⟩) x7_5.length co57 : Value).ownBlock) (.slice A373_0 (rd_L1 x5_5 x13_5).length c373_0) (rd_L1 x5_5 x13_5)) := ⟨by exact Kd.V_mono (Kd.V_far (p := ⟨go40, (x13_5 : Int).toNat, none⟩) (Kd.V_mono HL373_0.out (fun k_ hk => (⟨hk, fun e_ => hk.1.2 (by rw [e_]; rfl)⟩ : _ ∧ k_ ≠ go40))) (fun _ hk => hk.2) (.slice Ao92 t375.length co92)) (fun _ hk => ⟨hk.1.1.1.1, ⟨hk.1.1.2, hk.1.1.1.2⟩⟩)⟩
                                 have n4_ : Aside0 (Kd.V (Kd.int .i64) 3 (w90.setCell ⟨go40, (x13_5 : Int).toNat, none⟩ (.slice Ao92 t375.length co92)) w.heap.size (fun k_ => (w.heap.size ≤ k_) ∧ some k_ ≠ (.slice (some ⟨go40, 0, none⟩) x5_5.length co52 : Value).ownBlock ∧ some k_ ≠ (.slice (some ⟨go44, 0, none⟩) x7_5.length co57 : Value).ownBlock) (.slice A374_0 (rd_L1 x5_5 x8_3).length c374_0) (rd_L1 x5_5 x8_3)) := ⟨by exact Kd.V_mono (Kd.V_far (p := ⟨go40, (x13_5 : Int).toNat, none⟩) (Kd.V_mono HL374_0.out (fun k_ hk => (⟨hk, fun e_ => hk.1.2 (by rw [e_]; rfl)⟩ : _ ∧ k_ ≠ go40))) (fun _ hk => hk.2) (.slice Ao92 t375.length co92)) (fun _ hk => ⟨hk.1.1.1.1, ⟨hk.1.1.2, hk.1.1.1.2⟩⟩)⟩
                                 have n5_ : Aside0 (Below w.heap.size w (w90.setCell ⟨go40, (x13_5 : Int).toNat, none⟩ (.slice Ao92 t375.length co92))) := ⟨by repeat (first | (with_reducible first | exact HB.out | apply below_alloc | apply pw_below_drewN | apply below_drew1 | refine below_set ?_ GB40.out) | exact HB.out)⟩
                                 (try clear HO_5)
                                 (try clear HO_7)
                                 (try clear HL371_0)
                                 (try clear HL373_0)
                                 (try clear HL374_0)
                                 (try clear HB)
                                 generalize (w90.setCell ⟨go40, (x13_5 : Int).toNat, none⟩ (.slice Ao92 t375.length co92)) = w93 at n0_ n1_ n2_ n3_ n4_ n5_ ⊢
                                 have HO_5 := n0_
                                 have HO_7 := n1_
                                 have HL371_0 := n2_
                                 have HL373_0 := n3_
                                 have HL374_0 := n4_
                                 have HB := n5_
                                 clear n0_ n1_ n2_ n3_ n4_ n5_
                                 have n0_ := Aside0.mk (Kd.N_drew HO_5.out)
                                 have n1_ := Aside0.mk (Kd.N_drew HO_7.out)
                                 have n2_ := Aside0.mk (Kd.V_drew HL371_0.out)
                                 have n3_ := Aside0.mk (Kd.V_drew HL373_0.out)
                                 have n4_ := Aside0.mk (Kd.V_drew HL374_0.out)
                                 have n5_ := Aside0.mk (below_drew1 HB.out)
                                 clear HO_5
                                 clear HO_7
                                 clear HL371_0
                                 clear HL373_0
                                 clear HL374_0
                                 clear HB
                                 have HO_5 := n0_
                                 have HO_7 := n1_
                                 have HL371_0 := n2_
                                 have HL373_0 := n3_
                                 have HL374_0 := n4_
                                 have HB := n5_
                                 clear n0_ n1_ n2_ n3_ n4_ n5_
                                 have p379 : 0 ≤ (x13_5 : Int) := of_decide_eq_true (by assumption)
                                 have q379 : x13_5 < (x7_5.length : Int) := of_decide_eq_true (by assumption)
                                 obtain ⟨ad379, A379_0, c379_0, e379, hx379_0, hl379_0, hi379_0⟩ := at_L1 (Kd.N_reads' HO_7.out).2.2 x13_5 p379 q379
                                 obtain rfl : (⟨go44, 0, none⟩ : Addr) = ad379 := (by injection e379)
                                 obtain ⟨ce379, hce379, hMe379, hcc379⟩ := Kd.N_get HO_7.out [] x13_5 p379 (by first | exact q379 | exact of_decide_eq_true (by assumption) | (have e_ := (Kd.N_reads' HO_7.out).1; omega))
                                 obtain ⟨ua379_0, uc379_0, rfl, ul379_0, ge379_0⟩ := Kd.FK_slice_open hMe379
                                 have hv379_0 := hcc379 0 _ rfl
                                 rw [Nat.add_zero, show ((Kd.slice 3 (Kd.int .i64))).sz = 1 from rfl, Nat.mul_one] at hv379_0
                                 replace hv379_0 := Option.some.inj (hv379_0.symm.trans hx379_0)
                                 injection hv379_0 with hva_ hvn_ hvc_
                                 rw [hva_] at ge379_0
                                 rw [hvc_] at ul379_0
                                 have HL379_0 := Aside0.mk (show Kd.V (Kd.int .i64) 3 _ w.heap.size _ _ (rd_L1 x7_5 x13_5) from Kd.V_mk ul379_0 ge379_0)
                                 clear hva_ hvn_ hvc_ ge379_0 ul379_0
                                 clear hcc379 hce379
                                 (first | simp only [add_plain] at hx379_0 | simp only [add_at] at hx379_0 | simp only [Addr.add, Nat.zero_add] at hx379_0 | skip)
                                 have HR379_0 := Aside0.mk hi379_0
                                 have HC379_0 := Aside0.mk hl379_0
                                 clear hi379_0 hl379_0
                                 replace p379 := eq_true p379
                                 replace q379 := eq_true q379
                                 have p380 : 0 ≤ (x8_3 : Int) := of_decide_eq_true (by assumption)
                                 have q380 : x8_3 < (x7_5.length : Int) := of_decide_eq_true (by assumption)
                                 obtain ⟨ad380, A380_0, c380_0, e380, hx380_0, hl380_0, hi380_0⟩ := at_L1 (Kd.N_reads' HO_7.out).2.2 x8_3 p380 q380
                                 obtain rfl : (⟨go44, 0, none⟩ : Addr) = ad380 := (by injection e380)
                                 obtain ⟨ce380, hce380, hMe380, hcc380⟩ := Kd.N_get HO_7.out [] x8_3 p380 (by first | exact q380 | exact of_decide_eq_true (by assumption) | (have e_ := (Kd.N_reads' HO_7.out).1; omega))
                                 obtain ⟨ua380_0, uc380_0, rfl, ul380_0, ge380_0⟩ := Kd.FK_slice_open hMe380
                                 have hv380_0 := hcc380 0 _ rfl
                                 rw [Nat.add_zero, show ((Kd.slice 3 (Kd.int .i64))).sz = 1 from rfl, Nat.mul_one] at hv380_0
                                 replace hv380_0 := Option.some.inj (hv380_0.symm.trans hx380_0)
                                 injection hv380_0 with hva_ hvn_ hvc_
                                 rw [hva_] at ge380_0
                                 rw [hvc_] at ul380_0
                                 have HL380_0 := Aside0.mk (show Kd.V (Kd.int .i64) 3 _ w.heap.size _ _ (rd_L1 x7_5 x8_3) from Kd.V_mk ul380_0 ge380_0)
                                 clear hva_ hvn_ hvc_ ge380_0 ul380_0
                                 clear hcc380 hce380
                                 (first | simp only [add_plain] at hx380_0 | simp only [add_at] at hx380_0 | simp only [Addr.add, Nat.zero_add] at hx380_0 | skip)
                                 have HR380_0 := Aside0.mk hi380_0
                                 have HC380_0 := Aside0.mk hl380_0
                                 clear hi380_0 hl380_0
                                 replace p380 := eq_true p380
                                 replace q380 := eq_true q380
                                 refine start_ (n := 14) (S := fun w' => w'.cell? ⟨go44, (x13_5).toNat, none⟩ = some (.slice A379_0 (rd_L1 x7_5 x13_5).length c379_0) ∧ w'.cell? ⟨go44, (x8_3).toNat, none⟩ = some (.slice A380_0 (rd_L1 x7_5 x8_3).length c380_0)) (ds := [13]) #[false, false, false, false, false, false, false, false, false, false, false, false, false, false] (by kernel_rfl) rfl rfl ⟨hx379_0, hx380_0⟩ (fun hHeld => ?_); refine with_tabW spec_InvM.tab33 spec_InvM.bits33 (fun HT_ HW_ => ?_)
                                 generalize w93.drew = w94 at HO_5 HO_7 HL371_0 HL373_0 HL374_0 HB HL379_0 HL380_0 HQ91 HR379_0 HR380_0 hx379_0 hx380_0 hHeld ⊢
                                 refine pure_ (i := 0) (N := some 166) (v := ?_) (a' := ?_) #[true, false, false, false, false, false, false, false, false, false, false, false, false, false] rfl rfl (any_of HT_.out (by kernel_rfl)) (fun _ _ _ h => h) (Or.inl ⟨by rfl, ?_⟩) ?_ ?_
                                 rotate_left
                                 ·intro w'
                                  go_simp
                                  with_reducible rfl
                                 rotate_left
                                 ·simp only [Act.put, List.setIfInBounds_toArray, List.set_cons_zero, List.set_cons_succ, i64_w, i32_w]
                                  rfl
                                 refine pure_ (i := 1) (N := some 167) (v := ?_) (a' := ?_) #[true, true, false, false, false, false, false, false, false, false, false, false, false, false] rfl rfl (any_of HT_.out (by kernel_rfl)) (fun _ _ _ h => h) (Or.inl ⟨by rfl, ?_⟩) ?_ ?_
                                 rotate_left
                                 ·intro w'
                                  go_simp
                                  with_reducible rfl
                                 rotate_left
                                 ·simp only [Act.put, List.setIfInBounds_toArray, List.set_cons_zero, List.set_cons_succ, i64_w, i32_w]
                                  rfl
                                 refine pure_ (i := 2) (N := some 168) (v := ?_) (a' := ?_) #[true, true, true, false, false, false, false, false, false, false, false, false, false, false] rfl rfl (any_of HT_.out (by kernel_rfl)) (fun _ _ _ h => h) (Or.inl ⟨by rfl, ?_⟩) ?_ ?_
                                 rotate_left
                                 ·intro w'
                                  go_simp
                                  with_reducible rfl
                                 rotate_left
                                 ·simp only [Act.put, List.setIfInBounds_toArray, List.set_cons_zero, List.set_cons_succ, i64_w, i32_w]
                                  rfl
                                 refine pure_ (i := 3) (N := some 169) (v := ?_) (a' := ?_) #[true, true, true, true, false, false, false, false, false, false, false, false, false, false] rfl rfl (any_of HT_.out (by kernel_rfl)) (fun _ _ _ h => h) (Or.inl ⟨by rfl, ?_⟩) ?_ ?_
                                 rotate_left
                                 ·intro w'
                                  go_simp
                                  with_reducible rfl
                                 rotate_left
                                 ·simp only [Act.put, List.setIfInBounds_toArray, List.set_cons_zero, List.set_cons_succ, i64_w, i32_w]
                                  rfl
                                 refine pure_ (i := 4) (N := some 170) (v := ?_) (a' := ?_) #[true, true, true, true, true, false, false, false, false, false, false, false, false, false] rfl rfl (any_of HT_.out (by kernel_rfl)) (fun _ _ _ h => h) (Or.inl ⟨by rfl, ?_⟩) ?_ ?_
                                 rotate_left
                                 ·intro w'
                                  go_simp
                                  with_reducible rfl
                                 rotate_left
                                 ·simp only [Act.put, List.setIfInBounds_toArray, List.set_cons_zero, List.set_cons_succ, i64_w, i32_w]
                                  rfl
                                 refine pure_ (i := 6) (N := some 172) (v := ?_) (a' := ?_) #[true, true, true, true, true, false, true, false, false, false, false, false, false, false] rfl rfl (any_of HT_.out (by kernel_rfl)) (fun _ _ _ h => h) (Or.inl ⟨by rfl, ?_⟩) ?_ ?_
                                 rotate_left
                                 ·intro w'
                                  go_simp
                                  with_reducible rfl
                                 rotate_left
                                 ·simp only [Act.put, List.setIfInBounds_toArray, List.set_cons_zero, List.set_cons_succ, i64_w, i32_w]
                                  rfl
                                 refine pure_ (i := 7) (N := some 173) (v := ?_) (a' := ?_) #[true, true, true, true, true, false, true, true, false, false, false, false, false, false] rfl rfl (any_of HT_.out (by kernel_rfl)) (fun _ _ _ h => h) (Or.inl ⟨by rfl, ?_⟩) ?_ ?_
                                 rotate_left
                                 ·intro w'
                                  go_simp
                                  with_reducible rfl
                                 rotate_left
                                 ·simp only [Act.put, List.setIfInBounds_toArray, List.set_cons_zero, List.set_cons_succ, i64_w, i32_w]
                                  rfl
                                 refine pure_ (i := 8) (N := some 174) (v := ?_) (a' := ?_) #[true, true, true, true, true, false, true, true, true, false, false, false, false, false] rfl rfl (any_of HT_.out (by kernel_rfl)) (fun _ _ _ h => h) (Or.inl ⟨by rfl, ?_⟩) ?_ ?_
                                 rotate_left
                                 ·intro w'
                                  go_simp
                                  with_reducible rfl
                                 rotate_left
                                 ·simp only [Act.put, List.setIfInBounds_toArray, List.set_cons_zero, List.set_cons_succ, i64_w, i32_w]
                                  rfl
                                 refine pure_ (i := 10) (N := some 176) (v := ?_) (a' := ?_) #[true, true, true, true, true, false, true, true, true, false, true, false, false, false] rfl rfl (any_of HT_.out (by kernel_rfl)) (fun _ _ _ h => h) (Or.inl ⟨by rfl, ?_⟩) ?_ ?_
                                 rotate_left
                                 ·intro w'
                                  go_simp
                                  with_reducible rfl
                                 rotate_left
                                 ·simp only [Act.put, List.setIfInBounds_toArray, List.set_cons_zero, List.set_cons_succ, i64_w, i32_w]
                                  rfl
                                 refine take_ (i := 5) (N := some 171) (v := ?_) (a' := ?_) #[true, true, true, true, true, true, true, true, true, false, true, false, false, false] rfl rfl (take_ofW HT_.out HW_.out (by kernel_rfl)) (fun _ _ _ h => h) (Or.inl ⟨by rfl, ?_⟩) hHeld ?_ ?_
                                 rotate_left
                                 ·rintro w' ⟨s0, s1⟩
                                  go_simp
                                  with_reducible rfl
                                 rotate_left
                                 ·simp only [Act.put, List.setIfInBounds_toArray, List.set_cons_zero, List.set_cons_succ, i64_w, i32_w]
                                  rfl
                                 refine take_ (i := 9) (N := some 175) (v := ?_) (a' := ?_) #[true, true, true, true, true, true, true, true, true, true, true, false, false, false] rfl rfl (take_ofW HT_.out HW_.out (by kernel_rfl)) (fun _ _ _ h => h) (Or.inl ⟨by rfl, ?_⟩) hHeld ?_ ?_
                                 rotate_left
                                 ·rintro w' ⟨s0, s1⟩
                                  go_simp
                                  with_reducible rfl
                                 rotate_left
                                 ·simp only [Act.put, List.setIfInBounds_toArray, List.set_cons_zero, List.set_cons_succ, i64_w, i32_w]
                                  rfl
                                 refine one_ (i := 11) (N := some 177) #[true, true, true, true, true, true, true, true, true, true, true, true, false, false] rfl rfl (one_of HT_.out (by kernel_rfl)) (by decide) (fun K hK => ?_)
                                 refine goes_ Try.func59 (by kernel_rfl) rfl #[.slice A379_0 (rd_L1 x7_5 x13_5).length c379_0, .slice A380_0 (rd_L1 x7_5 x8_3).length c380_0, .int .i64 (rd (rd_L1 x5_5 x13_5) x8_3)] (by rfl) rfl rfl (by (try simp only [List.map_toArray, List.map_cons, List.map_nil]); first | done | rfl) ?_
                                 with_reducible refine (spec_l06Row.calls kj70 _ _ (rd_L1 x7_5 x13_5) _ _ (rd_L1 x7_5 x8_3) (rd (rd_L1 x5_5 x13_5) x8_3) t381 _ ?side1 ?side2 ?side3 ?side4 A87.out).mono ?_
                                 (case side1 => repeat (first | exact (by repeat (first | (with_reducible exact HR379_0.out) | (with_reducible refine Kd.C_alloc ?_ _) | (with_reducible refine Kd.C_drewN ?_ _) | (with_reducible refine Kd.C_drew ?_) | exact HR379_0.out)) | (with_reducible refine Kd.C_alloc ?_ _) | (with_reducible refine Kd.C_drewN ?_ _) | (with_reducible refine Kd.C_drew ?_)))
                                 (case side2 => exact HC379_0.out)
                                 (case side3 => repeat (first | exact (by repeat (first | (with_reducible exact HR380_0.out) | (with_reducible refine Kd.C_alloc ?_ _) | (with_reducible refine Kd.C_drewN ?_ _) | (with_reducible refine Kd.C_drew ?_) | exact HR380_0.out)) | (with_reducible refine Kd.C_alloc ?_ _) | (with_reducible refine Kd.C_drewN ?_ _) | (with_reducible refine Kd.C_drew ?_)))
                                 (case side4 => exact HC380_0.out)
                                 rintro e w95 ⟨v382, rfl, ho0, hb⟩
                                 have HS0_ := (hb.cell (World.block_lt_of_cell? _ _ (hHeld.1))).trans (hHeld.1)
                                 have HS1_ := (hb.cell (World.block_lt_of_cell? _ _ (hHeld.2))).trans (hHeld.2)
                                 refine ⟨_, rfl, ?_⟩
                                 have n0_ := Aside0.mk (Kd.N_elder' (by exact HO_5.out) (Kd.R_base ho0) hb)
                                 have n1_ := Aside0.mk (Kd.N_elder' (by exact HO_7.out) (Kd.R_base ho0) hb)
                                 have n2_ := Aside0.mk (Kd.V_elder' (by exact HL371_0.out) (Kd.R_base ho0) hb)
                                 have n3_ := Aside0.mk (Kd.V_elder' (by exact HL373_0.out) (Kd.R_base ho0) hb)
                                 have n4_ := Aside0.mk (Kd.V_elder' (by exact HL374_0.out) (Kd.R_base ho0) hb)
                                 have n5_ := Aside0.mk (Kd.V_elder' (by exact HL379_0.out) (Kd.R_base ho0) hb)
                                 have n6_ := Aside0.mk (Kd.V_elder' (by exact HL380_0.out) (Kd.R_base ho0) hb)
                                 have n7_ := Aside0.mk (Kd.R_lower (Kd.R_newM (M := fun k_ => (w.heap.size ≤ k_)) ho0 (below_size (by repeat (first | exact HB.out | apply below_alloc | apply pw_below_drewN | apply below_drew1))) (fun k_ h_ => h_)) (below_size (by repeat (first | exact HB.out | apply below_alloc | apply pw_below_drewN | apply below_drew1))))
                                 have n8_ := Aside0.mk (Kd.C_below (by repeat (first | (with_reducible exact HR379_0.out) | (with_reducible refine Kd.C_alloc ?_ _) | (with_reducible refine Kd.C_drewN ?_ _) | (with_reducible refine Kd.C_drew ?_) | exact HR379_0.out)) hb)
                                 have n9_ := Aside0.mk (Kd.C_below (by repeat (first | (with_reducible exact HR380_0.out) | (with_reducible refine Kd.C_alloc ?_ _) | (with_reducible refine Kd.C_drewN ?_ _) | (with_reducible refine Kd.C_drew ?_) | exact HR380_0.out)) hb)
                                 have n10_ := Aside0.mk (below_step (by repeat (first | exact HB.out | apply below_alloc | apply pw_below_drewN | apply below_drew1)) hb)
                                 clear HO_5
                                 clear HO_7
                                 clear HL371_0
                                 clear HL373_0
                                 clear HL374_0
                                 clear HL379_0
                                 clear HL380_0
                                 clear HR379_0
                                 clear HR380_0
                                 clear HB
                                 have HO_5 := n0_
                                 have HO_7 := n1_
                                 have HL371_0 := n2_
                                 have HL373_0 := n3_
                                 have HL374_0 := n4_
                                 have HL379_0 := n5_
                                 have HL380_0 := n6_
                                 have HO383 := n7_
                                 have HR379_0 := n8_
                                 have HR380_0 := n9_
                                 have HB := n10_
                                 clear n0_ n1_ n2_ n3_ n4_ n5_ n6_ n7_ n8_ n9_ n10_
                                 (try clear hb)
                                 (try clear hb2)
                                 (try clear hk)
                                 (try clear hi)
                                 (try clear ho0)
                                 have p88 : 0 ≤ (x13_5 : Int) := of_decide_eq_true (by assumption)
                                 have q88 : (x13_5 : Int) < ((x7_5.length : Int) : Int) := of_decide_eq_true (by assumption)
                                 obtain ⟨ce88, hcl88, hM88, hcc88, hfr88⟩ := Kd.N_elem HO_7.out [] (x13_5 : Int) p88 q88
                                 obtain ⟨ua88_0, uc88_0, rfl, ul88_0, ge88_0⟩ := Kd.FK_slice_open hM88
                                 have hx88_0 := hcc88 0 _ rfl
                                 have hf88_0 := hfr88 0
                                 (try simp only [show ((Kd.slice 3 (Kd.int .i64))).sz = 1 from rfl, Nat.mul_one, Nat.add_zero] at hx88_0)
                                 (try simp only [show ((Kd.slice 3 (Kd.int .i64))).sz = 1 from rfl, Nat.mul_one, Nat.add_zero] at hf88_0)
                                 (try clear hM88); clear hcl88 hcc88 hfr88
                                 replace p88 := eq_true p88
                                 replace q88 := eq_true q88
                                 obtain ⟨Ao97, co97, eo97⟩ := Kd.R_slice HO383.out
                                 (first | subst eo97 | (injection eo97 with f1_ f2_ f3_; have f4_ := f1_.symm; have f5_ := f3_.symm; clear f1_ f2_ f3_; subst f4_; subst f5_))
                                 have HX96 := Aside0.mk (show Kd.N (Kd.slice 3 (Kd.int .i64)) 32 _ w.heap.size (fun k_ => (w.heap.size ≤ k_) ∧ some k_ ≠ (.slice (some ⟨go40, 0, none⟩) x5_5.length co52 : Value).ownBlock ∧ some k_ ≠ (.slice Ao97 t381.length co97 : Value).ownBlock) (.slice (some ⟨go44, 0, none⟩) x7_5.length co57) x7_5 from (Kd.N_mono (HO_7.out) (fun k_ hk => ⟨hk.1.1, ⟨hk.1.2, hk.2⟩⟩)))
                                 replace HX96 := Aside0.mk (show Kd.N (Kd.slice 3 (Kd.int .i64)) 32 _ w.heap.size (fun k_ => (w.heap.size ≤ k_) ∧ some k_ ≠ (.slice (some ⟨go40, 0, none⟩) x5_5.length co52 : Value).ownBlock) (.slice (some ⟨go44, 0, none⟩) x7_5.length co57) x7_5 from Kd.N_mono HX96.out (fun k_ hk => ⟨hk.1, hk.2.1⟩))
                                 obtain ⟨ce96, hcl96, hM96, hcc96, hfr96⟩ := Kd.N_elem HX96.out [] (x13_5 : Int) (of_decide_eq_true (by assumption)) (by have h_ : (x13_5 : Int) < ((x7_5.length : Int) : Int) := of_decide_eq_true (by assumption); first | exact h_ | (have e_ := (Kd.N_reads' HO_7.out).1; omega) | simpa using h_)
                                 obtain ⟨ua96_0, uc96_0, rfl, ul96_0, ge96_0⟩ := Kd.FK_slice_open hM96
                                 have HP96 := (Kd.N_seg HX96.out (x13_5 : Int) (of_decide_eq_true (by assumption)) (by have h_ : (x13_5 : Int) < ((x7_5.length : Int) : Int) := of_decide_eq_true (by assumption); first | exact h_ | (have e_ := (Kd.N_reads' HO_7.out).1; omega) | simpa using h_) (seg := [.slice Ao97 t381.length co97]) (j := 0) hcl96 hcc96 (show 1 ≤ 1 from by decide) (x' := t381) (Kd.FK_slice_mk (Kd.R_reads' (Kd.R_mono (ok' := (fun k_ => ((fun k_ => (w.heap.size ≤ k_) ∧ some k_ ≠ (.slice (some ⟨go40, 0, none⟩) x5_5.length co52 : Value).ownBlock)) k_ ∧ k_ ≠ go44)) (Kd.R_apart' (Kd.R_apart' (HO383.out) (Kd.N_typed HO_5.out) (by decide)) (Kd.N_typed HO_7.out) (by decide)) (fun k_ hk => ⟨⟨hk.1.1.1, hk.1.2⟩, fun e_ => (hk.2) (by rw [e_]; rfl)⟩))).2.1 (Kd.R_F (Kd.R_mono (ok' := (fun k_ => ((fun k_ => (w.heap.size ≤ k_) ∧ some k_ ≠ (.slice (some ⟨go40, 0, none⟩) x5_5.length co52 : Value).ownBlock)) k_ ∧ k_ ≠ go44)) (Kd.R_apart' (Kd.R_apart' (HO383.out) (Kd.N_typed HO_5.out) (by decide)) (Kd.N_typed HO_7.out) (by decide)) (fun k_ hk => ⟨⟨hk.1.1.1, hk.1.2⟩, fun e_ => (hk.2) (by rw [e_]; rfl)⟩)))) (fun _ hk => hk)).1
                                 (try simp only [show ((Kd.slice 3 (Kd.int .i64))).sz = 1 from rfl, Nat.mul_one, Nat.add_zero] at HP96)
                                 rw [← Ny384.out] at HP96
                                 have HQ96 := Aside0.mk HP96
                                 (try clear hM96); clear hcl96 hcc96 hfr96 HP96
                                 refine hK.out _ _ ⟨HS0_, HS1_⟩ (fun hHeld => ?_)
                                 clear hK K
                                 refine norm_ (a' := ?_) ?_ ?_
                                 rotate_left
                                 ·show Act.put _ (some 177) _ = _
                                  simp only [Act.put, List.setIfInBounds_toArray, List.set_cons_zero, List.set_cons_succ, i64_w, i32_w]
                                  rfl
                                 refine pure_ (i := 12) (N := some 178) (v := ?_) (a' := ?_) #[true, true, true, true, true, true, true, true, true, true, true, true, true, false] rfl rfl (any_of HT_.out (by kernel_rfl)) (fun _ _ _ h => h) (Or.inl ⟨by rfl, ?_⟩) ?_ ?_
                                 rotate_left
                                 ·intro w'
                                  go_simp
                                  with_reducible rfl
                                 rotate_left
                                 ·simp only [Act.put, List.setIfInBounds_toArray, List.set_cons_zero, List.set_cons_succ, i64_w, i32_w]
                                  rfl
                                 refine last_ (i := 13) (N := none) #[true, true, true, true, true, true, true, true, true, true, true, true, true, true] rfl rfl (one_of HT_.out (by kernel_rfl)) (by decide) (fun K hK => ?_)
                                 refine skip_ (w1 := ?_) (by rfl) rfl ?_ ?_
                                 rotate_left
                                 ·go_simp
                                  rfl
                                 refine hK.out _ _ ?_
                                 clear hK K
                                 refine done_ (done_of HT_.out (by kernel_rfl)) ?_
                                 try go_wp2
                                 (try simp only [← hl5_5, ← hl7_5])
                                 go_roundg kj70
                                 case measure => have := HJ1.out; have := HK2.out; have := HK3.out; have := HJ23.out; have := HK5.out; have := HJ70.out; omega
                                 case rel => exact ⟨(y378), (y384), (wrap64 (x13_5 + 1)), (by first | rfl | (simp; done) | (simp [*]; done)), H', ⟨by have := HJ1.out; have := HK2.out; have := HK3.out; have := HJ23.out; have := HK5.out; have := HJ70.out; omega⟩, ⟨by (try simp only [hl5_5]); (try simp only [hl7_5]); exact Kd.N_mono (Kd.N_far (p := ⟨go44, (x13_5 : Int).toNat, none⟩) (Kd.N_mono HO_5.out (fun k_ hk => (⟨hk, fun e_ => hk.1.2 (by rw [e_]; rfl)⟩ : _ ∧ k_ ≠ go44))) (fun _ hk => hk.2) (.slice Ao97 t381.length co97)) (fun _ hk => ⟨hk.1.1.1, hk.1.1.2⟩)⟩, ⟨by (try simp only [hl5_5]); (try simp only [hl7_5]); exact HQ96.out⟩, ⟨by repeat (first | (with_reducible first | exact HB.out | apply below_alloc | apply pw_below_drewN | apply below_drew1 | refine below_set ?_ GB44.out) | exact HB.out)⟩⟩
                                ·rw [if_neg c86] at H
                                 exact absurd H (by simp)
                               ·rw [if_neg c85] at H
                                exact absurd H (by simp)
                              ·rw [if_neg c82] at H
                               exact absurd H (by simp)
                             ·rw [if_neg c81] at H
                              exact absurd H (by simp)
                            ·rw [if_neg c80] at H
                             exact absurd H (by simp)
                           ·rw [if_neg c79] at H
                            exact absurd H (by simp)
                          ·rw [if_neg c78] at H
                           exact absurd H (by simp)
                         ·replace c77 := Bool.eq_false_iff.mpr c77
                          subst c77
                          have H1 : (spec_InvM.l3 kj70 (l0.length : Int) x5_5 x7_5 x8_3 (wrap64 (x13_5 + 1))) = some (r1, r2) := by rw [if_neg (show ¬ (false = true) by decide)] at H; exact H
                          clear H
                          have H := H1
                          clear H1
                          have H' := Aside0.mk H
                          clear H
                          go_wp2
                          (try simp only [← hl5_5, ← hl7_5])
                          go_roundg kj70
                          case measure => have := HJ1.out; have := HK2.out; have := HK3.out; have := HJ23.out; have := HK5.out; have := HJ70.out; omega
                          case rel => exact ⟨(x5_5), (x7_5), (wrap64 (x13_5 + 1)), (by first | rfl | (simp; done) | (simp [*]; done)), H', ⟨by have := HJ1.out; have := HK2.out; have := HK3.out; have := HJ23.out; have := HK5.out; have := HJ70.out; omega⟩, ⟨by (try simp only [hl5_5]); (try simp only [hl7_5]); exact HO_5.out⟩, ⟨by (try simp only [hl5_5]); (try simp only [hl7_5]); exact HO_7.out⟩, ⟨by repeat (first | exact HB.out | apply below_alloc | apply pw_below_drewN | apply below_drew1)⟩⟩
                      ·rw [if_neg c70] at H
                       have c70b0 : decide (x13_5 < (l0.length : Int)) = false := decide_eq_false c70
                       clear c70
                       have H' := Aside0.mk H
                       clear H
                       go_wp2
                       (try simp only [← hl5_5, ← hl7_5])
                       go_roundg k5
                       case measure => have := HJ1.out; have := HK2.out; have := HK3.out; have := HJ23.out; have := HK5.out; omega
                       case rel => exact ⟨(x5_5), (x7_5), (wrap64 (x8_3 + 1)), (by first | rfl | (simp; done) | (simp [*]; done)), H', ⟨by have := HJ1.out; have := HK2.out; have := HK3.out; have := HJ23.out; have := HK5.out; omega⟩, ⟨by (try simp only [hl5_5]); (try simp only [hl7_5]); exact HO_5.out⟩, ⟨by (try simp only [hl5_5]); (try simp only [hl7_5]); exact HO_7.out⟩, ⟨by repeat (first | exact HB.out | apply below_alloc | apply pw_below_drewN | apply below_drew1)⟩⟩
                   ·rw [if_neg c46] at H
                    exact absurd H (by simp)
                  ·rw [if_neg c43] at H
                   exact absurd H (by simp)
                 ·rw [if_neg c42] at H
                  exact absurd H (by simp)
                ·rw [if_neg c39] at H
                 exact absurd H (by simp)
               ·rw [if_neg c38] at H
                exact absurd H (by simp)
              ·rw [if_neg c37] at H
               exact absurd H (by simp)
             ·rw [if_neg c36] at H
              exact absurd H (by simp)
         ·rw [if_neg c23] at H
          have c23b0 : decide (x8_3 < (l0.length : Int)) = false := decide_eq_false c23
          clear c23
          simp only [Option.some.injEq, Prod.mk.injEq] at H
          obtain ⟨rfl, rfl⟩ := H
          go_wp2
          go_ret2
          exact ⟨_, by first | rfl | (simp [errW_none, errW_some] <;> rfl) | (simp [*, errW_none, errW_some] <;> rfl), by exact Kd.N_mono HO_7.out (fun _ hk => hk.1), by repeat (first | exact HB.out | apply below_alloc | apply pw_below_drewN | apply below_drew1)⟩

end Go.Proofs.Ytcpcphdhaboekaa.XFnExactDecode
