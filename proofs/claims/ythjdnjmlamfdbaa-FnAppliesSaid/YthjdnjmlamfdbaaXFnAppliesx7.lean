/- What the functions of a law compute, and that their calls compute it: written by a program of this session (xprint.py), which turns the kit print at a few places. -/
import Derived.Test.YthjdnjmlamfdbaaXFnAppliesx0
import Derived.Test.YthjdnjmlamfdbaaXFnAppliesx2
import Derived.Test.YthjdnjmlamfdbaaXFnAppliesx5
import Derived.Test.YthjdnjmlamfdbaaXFnAppliesx6
namespace Go.Proofs.Ythjdnjmlamfdbaa.XFnApplies
open Go.RowKit Go.Proofs.YthjdnjmlamfdbaaW.PrintWords Go.Proofs.YthjdnjmlamfdbaaW.PrintLast Go.Proofs.YthjdnjmlamfdbaaW.PrintMore
attribute [local go_sem] max2_int min2_int max_two min_two max_three min_three max_four min_four   -- for this text's walks alone
set_option linter.unusedVariables false
set_option linter.unusedSimpArgs false

/-! ### spec_InvM: function 32 -/
mutual
def spec_InvM.j0 : Nat → List (List Int) → Bool → Option ((List (List Int)) × Bool)
 | 0, _, _ => none
 | k + 1, x0, x26 => if x26 = true then (some ((([] : List (List Int))), false)) else (spec_InvM.l0 k x0 (x0.length : Int) (([] : List (List Int))) 0)
def spec_InvM.l0 : Nat → List (List Int) → Int → List (List Int) → Int → Option ((List (List Int)) × Bool)
 | 0, _, _, _, _ => none
 | k + 1, x0, x4, x5, x6 => if x6 < x4 then ((some (([] : List Int) : List Int)).bind fun y306 => (if 0 ≤ x6 then (if x6 < (x0.length : Int) then (if y306.length + (rd_L2 x0 x6).length < 17592186044416 then (if x5.length < 5864062014805 then (spec_InvM.l0 k x0 x4 (x5 ++ [(y306 ++ (rd_L2 x0 x6))]) (wrap64 (x6 + 1))) else (none)) else (none)) else (none)) else (none))) else ((spec_OneM.f k x4).bind fun t316 => (spec_InvM.l1 k x4 x5 t316 0))
def spec_InvM.l1 : Nat → Int → List (List Int) → List (List Int) → Int → Option ((List (List Int)) × Bool)
 | 0, _, _, _, _ => none
 | k + 1, x4, x5, x7, x8 => if x8 < x4 then (spec_InvM.l2 k x4 x5 x7 x8 x8) else (some (x7, true))
def spec_InvM.j4 : Nat → Int → List (List Int) → List (List Int) → Int → Int → Option ((List (List Int)) × Bool)
 | 0, _, _, _, _, _ => none
 | k + 1, x4, x5, x7, x8, x9 => if x9 = x4 then (some ((([] : List (List Int))), false)) else (if 0 ≤ x9 then (if x9 < (x5.length : Int) then (if 0 ≤ x8 then (if x8 < (x5.length : Int) then ((some ((x5.set (x9 : Int).toNat (rd_L2 x5 x8)).set (x8 : Int).toNat (rd_L2 x5 x9) : List (List Int))).bind fun y327 => (if x9 < (x7.length : Int) then (if x8 < (x7.length : Int) then ((some ((x7.set (x9 : Int).toNat (rd_L2 x7 x8)).set (x8 : Int).toNat (rd_L2 x7 x9) : List (List Int))).bind fun y331 => (if x8 < ((rd_L2 y327 x8).length : Int) then ((spec_InvG.f k (rd (rd_L2 y327 x8) x8)).bind fun t334 => ((spec_l06Times.f k (rd_L2 y327 x8) t334).bind fun t336 => ((spec_l06Times.f k (rd_L2 y331 x8) t334).bind fun t341 => (spec_InvM.l3 k x4 (y327.set (x8 : Int).toNat t336) (y331.set (x8 : Int).toNat t341) x8 0)))) else (none))) else (none)) else (none))) else (none)) else (none)) else (none)) else (none))
def spec_InvM.l3 : Nat → Int → List (List Int) → List (List Int) → Int → Int → Option ((List (List Int)) × Bool)
 | 0, _, _, _, _, _ => none
 | k + 1, x4, x5, x7, x8, x13 => if x13 < x4 then (if x13 = x8 then (spec_InvM.j6 k x4 x5 x7 x8 x13 false) else (if 0 ≤ x13 then (if x13 < (x5.length : Int) then (if 0 ≤ x8 then (if x8 < ((rd_L2 x5 x13).length : Int) then (spec_InvM.j6 k x4 x5 x7 x8 x13 ((rd (rd_L2 x5 x13) x8) != 0)) else (none)) else (none)) else (none)) else (none))) else (spec_InvM.l1 k x4 x5 x7 (wrap64 (x8 + 1)))
def spec_InvM.j6 : Nat → Int → List (List Int) → List (List Int) → Int → Int → Bool → Option ((List (List Int)) × Bool)
 | 0, _, _, _, _, _, _ => none
 | k + 1, x4, x5, x7, x8, x13, x145 => if x145 = true then (if 0 ≤ x13 then (if x13 < (x5.length : Int) then (if 0 ≤ x8 then (if x8 < ((rd_L2 x5 x13).length : Int) then (if x8 < (x5.length : Int) then ((spec_l06Row.f k (rd_L2 x5 x13) (rd_L2 x5 x8) (rd (rd_L2 x5 x13) x8)).bind fun t351 => (if x13 < (x7.length : Int) then (if x8 < (x7.length : Int) then ((spec_l06Row.f k (rd_L2 x7 x13) (rd_L2 x7 x8) (rd (rd_L2 x5 x13) x8)).bind fun t357 => (spec_InvM.l3 k x4 (x5.set (x13 : Int).toNat t351) (x7.set (x13 : Int).toNat t357) x8 (wrap64 (x13 + 1)))) else (none)) else (none))) else (none)) else (none)) else (none)) else (none)) else (none)) else (spec_InvM.l3 k x4 x5 x7 x8 (wrap64 (x13 + 1)))
def spec_InvM.l2 : Nat → Int → List (List Int) → List (List Int) → Int → Int → Option ((List (List Int)) × Bool)
 | 0, _, _, _, _, _ => none
 | k + 1, x4, x5, x7, x8, x9 => if x9 < x4 then (if 0 ≤ x9 then (if x9 < (x5.length : Int) then (if 0 ≤ x8 then (if x8 < ((rd_L2 x5 x9).length : Int) then (if (rd (rd_L2 x5 x9) x8) = 0 then (spec_InvM.l2 k x4 x5 x7 x8 (wrap64 (x9 + 1))) else (spec_InvM.j4 k x4 x5 x7 x8 x9)) else (none)) else (none)) else (none)) else (none)) else (spec_InvM.j4 k x4 x5 x7 x8 x9)
end
def spec_InvM.f (k : Nat) (l0 : List (List Int)) : Option ((List (List Int)) × Bool) := (spec_MatrixOk.f k l0).bind fun t298 => (if t298 = true then (if 0 < (l0.length : Int) then (spec_InvM.j0 k l0 ((l0.length : Int) != ((rd_L2 l0 0).length : Int))) else (none)) else (spec_InvM.j0 k l0 true))
theorem spec_InvM.mono_l : ∀ k, (∀ y0 y1, LeO (spec_InvM.j0 k y0 y1) (spec_InvM.j0 (k + 1) y0 y1)) ∧ (∀ y0 y1 y2 y3, LeO (spec_InvM.l0 k y0 y1 y2 y3) (spec_InvM.l0 (k + 1) y0 y1 y2 y3)) ∧ (∀ y0 y1 y2 y3, LeO (spec_InvM.l1 k y0 y1 y2 y3) (spec_InvM.l1 (k + 1) y0 y1 y2 y3)) ∧ (∀ y0 y1 y2 y3 y4, LeO (spec_InvM.j4 k y0 y1 y2 y3 y4) (spec_InvM.j4 (k + 1) y0 y1 y2 y3 y4)) ∧ (∀ y0 y1 y2 y3 y4, LeO (spec_InvM.l3 k y0 y1 y2 y3 y4) (spec_InvM.l3 (k + 1) y0 y1 y2 y3 y4)) ∧ (∀ y0 y1 y2 y3 y4 y5, LeO (spec_InvM.j6 k y0 y1 y2 y3 y4 y5) (spec_InvM.j6 (k + 1) y0 y1 y2 y3 y4 y5)) ∧ (∀ y0 y1 y2 y3 y4, LeO (spec_InvM.l2 k y0 y1 y2 y3 y4) (spec_InvM.l2 (k + 1) y0 y1 y2 y3 y4))
 | 0 => ⟨fun _ _ r h => by simp [spec_InvM.j0] at h, fun _ _ _ _ r h => by simp [spec_InvM.l0] at h, fun _ _ _ _ r h => by simp [spec_InvM.l1] at h, fun _ _ _ _ _ r h => by simp [spec_InvM.j4] at h, fun _ _ _ _ _ r h => by simp [spec_InvM.l3] at h, fun _ _ _ _ _ _ r h => by simp [spec_InvM.j6] at h, fun _ _ _ _ _ r h => by simp [spec_InvM.l2] at h⟩
 | k + 1 => by
  obtain ⟨ih0, ih1, ih2, ih3, ih4, ih5, ih6⟩ := spec_InvM.mono_l k
  refine ⟨?_, ?_, ?_, ?_, ?_, ?_, ?_⟩
  ·intro y0 y1
   unfold spec_InvM.j0
   repeat' first
   | (with_reducible exact ih0 _ _)
   | (with_reducible exact ih1 _ _ _ _)
   | (with_reducible exact ih2 _ _ _ _)
   | (with_reducible exact ih3 _ _ _ _ _)
   | (with_reducible exact ih4 _ _ _ _ _)
   | (with_reducible exact ih5 _ _ _ _ _ _)
   | (with_reducible exact ih6 _ _ _ _ _)
   | (with_reducible exact spec_InvG.mono _ _)
   | (with_reducible exact spec_MatrixOk.mono _ _)
   | (with_reducible exact spec_OneM.mono _ _)
   | (with_reducible exact spec_l06Row.mono _ _ _ _)
   | (with_reducible exact spec_l06Times.mono _ _ _)
   | (with_reducible exact LeO.refl _)
   | (with_reducible refine LeO.ite ?_ ?_)
   | (with_reducible refine LeO.bind ?_ (fun _ => ?_))
   | exact ih0 _ _
   | exact ih1 _ _ _ _
   | exact ih2 _ _ _ _
   | exact ih3 _ _ _ _ _
   | exact ih4 _ _ _ _ _
   | exact ih5 _ _ _ _ _ _
   | exact ih6 _ _ _ _ _
   | exact spec_InvG.mono _ _
   | exact spec_MatrixOk.mono _ _
   | exact spec_OneM.mono _ _
   | exact spec_l06Row.mono _ _ _ _
   | exact spec_l06Times.mono _ _ _
   | exact LeO.none _
   | refine LeO.ite ?_ ?_
   | refine LeO.bind ?_ (fun _ => ?_)
  ·intro y0 y1 y2 y3
   unfold spec_InvM.l0
   repeat' first
   | (with_reducible exact ih0 _ _)
   | (with_reducible exact ih1 _ _ _ _)
   | (with_reducible exact ih2 _ _ _ _)
   | (with_reducible exact ih3 _ _ _ _ _)
   | (with_reducible exact ih4 _ _ _ _ _)
   | (with_reducible exact ih5 _ _ _ _ _ _)
   | (with_reducible exact ih6 _ _ _ _ _)
   | (with_reducible exact spec_InvG.mono _ _)
   | (with_reducible exact spec_MatrixOk.mono _ _)
   | (with_reducible exact spec_OneM.mono _ _)
   | (with_reducible exact spec_l06Row.mono _ _ _ _)
   | (with_reducible exact spec_l06Times.mono _ _ _)
   | (with_reducible exact LeO.refl _)
   | (with_reducible refine LeO.ite ?_ ?_)
   | (with_reducible refine LeO.bind ?_ (fun _ => ?_))
   | exact ih0 _ _
   | exact ih1 _ _ _ _
   | exact ih2 _ _ _ _
   | exact ih3 _ _ _ _ _
   | exact ih4 _ _ _ _ _
   | exact ih5 _ _ _ _ _ _
   | exact ih6 _ _ _ _ _
   | exact spec_InvG.mono _ _
   | exact spec_MatrixOk.mono _ _
   | exact spec_OneM.mono _ _
   | exact spec_l06Row.mono _ _ _ _
   | exact spec_l06Times.mono _ _ _
   | exact LeO.none _
   | refine LeO.ite ?_ ?_
   | refine LeO.bind ?_ (fun _ => ?_)
  ·intro y0 y1 y2 y3
   unfold spec_InvM.l1
   repeat' first
   | (with_reducible exact ih0 _ _)
   | (with_reducible exact ih1 _ _ _ _)
   | (with_reducible exact ih2 _ _ _ _)
   | (with_reducible exact ih3 _ _ _ _ _)
   | (with_reducible exact ih4 _ _ _ _ _)
   | (with_reducible exact ih5 _ _ _ _ _ _)
   | (with_reducible exact ih6 _ _ _ _ _)
   | (with_reducible exact spec_InvG.mono _ _)
   | (with_reducible exact spec_MatrixOk.mono _ _)
   | (with_reducible exact spec_OneM.mono _ _)
   | (with_reducible exact spec_l06Row.mono _ _ _ _)
   | (with_reducible exact spec_l06Times.mono _ _ _)
   | (with_reducible exact LeO.refl _)
   | (with_reducible refine LeO.ite ?_ ?_)
   | (with_reducible refine LeO.bind ?_ (fun _ => ?_))
   | exact ih0 _ _
   | exact ih1 _ _ _ _
   | exact ih2 _ _ _ _
   | exact ih3 _ _ _ _ _
   | exact ih4 _ _ _ _ _
   | exact ih5 _ _ _ _ _ _
   | exact ih6 _ _ _ _ _
   | exact spec_InvG.mono _ _
   | exact spec_MatrixOk.mono _ _
   | exact spec_OneM.mono _ _
   | exact spec_l06Row.mono _ _ _ _
   | exact spec_l06Times.mono _ _ _
   | exact LeO.none _
   | refine LeO.ite ?_ ?_
   | refine LeO.bind ?_ (fun _ => ?_)
  ·intro y0 y1 y2 y3 y4
   unfold spec_InvM.j4
   repeat' first
   | (with_reducible exact ih0 _ _)
   | (with_reducible exact ih1 _ _ _ _)
   | (with_reducible exact ih2 _ _ _ _)
   | (with_reducible exact ih3 _ _ _ _ _)
   | (with_reducible exact ih4 _ _ _ _ _)
   | (with_reducible exact ih5 _ _ _ _ _ _)
   | (with_reducible exact ih6 _ _ _ _ _)
   | (with_reducible exact spec_InvG.mono _ _)
   | (with_reducible exact spec_MatrixOk.mono _ _)
   | (with_reducible exact spec_OneM.mono _ _)
   | (with_reducible exact spec_l06Row.mono _ _ _ _)
   | (with_reducible exact spec_l06Times.mono _ _ _)
   | (with_reducible exact LeO.refl _)
   | (with_reducible refine LeO.ite ?_ ?_)
   | (with_reducible refine LeO.bind ?_ (fun _ => ?_))
   | exact ih0 _ _
   | exact ih1 _ _ _ _
   | exact ih2 _ _ _ _
   | exact ih3 _ _ _ _ _
   | exact ih4 _ _ _ _ _
   | exact ih5 _ _ _ _ _ _
   | exact ih6 _ _ _ _ _
   | exact spec_InvG.mono _ _
   | exact spec_MatrixOk.mono _ _
   | exact spec_OneM.mono _ _
   | exact spec_l06Row.mono _ _ _ _
   | exact spec_l06Times.mono _ _ _
   | exact LeO.none _
   | refine LeO.ite ?_ ?_
   | refine LeO.bind ?_ (fun _ => ?_)
  ·intro y0 y1 y2 y3 y4
   unfold spec_InvM.l3
   repeat' first
   | (with_reducible exact ih0 _ _)
   | (with_reducible exact ih1 _ _ _ _)
   | (with_reducible exact ih2 _ _ _ _)
   | (with_reducible exact ih3 _ _ _ _ _)
   | (with_reducible exact ih4 _ _ _ _ _)
   | (with_reducible exact ih5 _ _ _ _ _ _)
   | (with_reducible exact ih6 _ _ _ _ _)
   | (with_reducible exact spec_InvG.mono _ _)
   | (with_reducible exact spec_MatrixOk.mono _ _)
   | (with_reducible exact spec_OneM.mono _ _)
   | (with_reducible exact spec_l06Row.mono _ _ _ _)
   | (with_reducible exact spec_l06Times.mono _ _ _)
   | (with_reducible exact LeO.refl _)
   | (with_reducible refine LeO.ite ?_ ?_)
   | (with_reducible refine LeO.bind ?_ (fun _ => ?_))
   | exact ih0 _ _
   | exact ih1 _ _ _ _
   | exact ih2 _ _ _ _
   | exact ih3 _ _ _ _ _
   | exact ih4 _ _ _ _ _
   | exact ih5 _ _ _ _ _ _
   | exact ih6 _ _ _ _ _
   | exact spec_InvG.mono _ _
   | exact spec_MatrixOk.mono _ _
   | exact spec_OneM.mono _ _
   | exact spec_l06Row.mono _ _ _ _
   | exact spec_l06Times.mono _ _ _
   | exact LeO.none _
   | refine LeO.ite ?_ ?_
   | refine LeO.bind ?_ (fun _ => ?_)
  ·intro y0 y1 y2 y3 y4 y5
   unfold spec_InvM.j6
   repeat' first
   | (with_reducible exact ih0 _ _)
   | (with_reducible exact ih1 _ _ _ _)
   | (with_reducible exact ih2 _ _ _ _)
   | (with_reducible exact ih3 _ _ _ _ _)
   | (with_reducible exact ih4 _ _ _ _ _)
   | (with_reducible exact ih5 _ _ _ _ _ _)
   | (with_reducible exact ih6 _ _ _ _ _)
   | (with_reducible exact spec_InvG.mono _ _)
   | (with_reducible exact spec_MatrixOk.mono _ _)
   | (with_reducible exact spec_OneM.mono _ _)
   | (with_reducible exact spec_l06Row.mono _ _ _ _)
   | (with_reducible exact spec_l06Times.mono _ _ _)
   | (with_reducible exact LeO.refl _)
   | (with_reducible refine LeO.ite ?_ ?_)
   | (with_reducible refine LeO.bind ?_ (fun _ => ?_))
   | exact ih0 _ _
   | exact ih1 _ _ _ _
   | exact ih2 _ _ _ _
   | exact ih3 _ _ _ _ _
   | exact ih4 _ _ _ _ _
   | exact ih5 _ _ _ _ _ _
   | exact ih6 _ _ _ _ _
   | exact spec_InvG.mono _ _
   | exact spec_MatrixOk.mono _ _
   | exact spec_OneM.mono _ _
   | exact spec_l06Row.mono _ _ _ _
   | exact spec_l06Times.mono _ _ _
   | exact LeO.none _
   | refine LeO.ite ?_ ?_
   | refine LeO.bind ?_ (fun _ => ?_)
  ·intro y0 y1 y2 y3 y4
   unfold spec_InvM.l2
   repeat' first
   | (with_reducible exact ih0 _ _)
   | (with_reducible exact ih1 _ _ _ _)
   | (with_reducible exact ih2 _ _ _ _)
   | (with_reducible exact ih3 _ _ _ _ _)
   | (with_reducible exact ih4 _ _ _ _ _)
   | (with_reducible exact ih5 _ _ _ _ _ _)
   | (with_reducible exact ih6 _ _ _ _ _)
   | (with_reducible exact spec_InvG.mono _ _)
   | (with_reducible exact spec_MatrixOk.mono _ _)
   | (with_reducible exact spec_OneM.mono _ _)
   | (with_reducible exact spec_l06Row.mono _ _ _ _)
   | (with_reducible exact spec_l06Times.mono _ _ _)
   | (with_reducible exact LeO.refl _)
   | (with_reducible refine LeO.ite ?_ ?_)
   | (with_reducible refine LeO.bind ?_ (fun _ => ?_))
   | exact ih0 _ _
   | exact ih1 _ _ _ _
   | exact ih2 _ _ _ _
   | exact ih3 _ _ _ _ _
   | exact ih4 _ _ _ _ _
   | exact ih5 _ _ _ _ _ _
   | exact ih6 _ _ _ _ _
   | exact spec_InvG.mono _ _
   | exact spec_MatrixOk.mono _ _
   | exact spec_OneM.mono _ _
   | exact spec_l06Row.mono _ _ _ _
   | exact spec_l06Times.mono _ _ _
   | exact LeO.none _
   | refine LeO.ite ?_ ?_
   | refine LeO.bind ?_ (fun _ => ?_)
theorem spec_InvM.mono : ∀ a0 k, LeO (spec_InvM.f k a0) (spec_InvM.f (k + 1) a0) := by
 intro a0 k
 obtain ⟨ih0, ih1, ih2, ih3, ih4, ih5, ih6⟩ := spec_InvM.mono_l k
 unfold spec_InvM.f
 repeat' first
   | (with_reducible exact ih0 _ _)
   | (with_reducible exact ih1 _ _ _ _)
   | (with_reducible exact ih2 _ _ _ _)
   | (with_reducible exact ih3 _ _ _ _ _)
   | (with_reducible exact ih4 _ _ _ _ _)
   | (with_reducible exact ih5 _ _ _ _ _ _)
   | (with_reducible exact ih6 _ _ _ _ _)
   | (with_reducible exact spec_InvG.mono _ _)
   | (with_reducible exact spec_MatrixOk.mono _ _)
   | (with_reducible exact spec_OneM.mono _ _)
   | (with_reducible exact spec_l06Row.mono _ _ _ _)
   | (with_reducible exact spec_l06Times.mono _ _ _)
   | (with_reducible exact LeO.refl _)
   | (with_reducible refine LeO.ite ?_ ?_)
   | (with_reducible refine LeO.bind ?_ (fun _ => ?_))
   | exact ih0 _ _
   | exact ih1 _ _ _ _
   | exact ih2 _ _ _ _
   | exact ih3 _ _ _ _ _
   | exact ih4 _ _ _ _ _
   | exact ih5 _ _ _ _ _ _
   | exact ih6 _ _ _ _ _
   | exact spec_InvG.mono _ _
   | exact spec_MatrixOk.mono _ _
   | exact spec_OneM.mono _ _
   | exact spec_l06Row.mono _ _ _ _
   | exact spec_l06Times.mono _ _ _
   | exact LeO.none _
   | refine LeO.ite ?_ ?_
   | refine LeO.bind ?_ (fun _ => ?_)
def spec_InvM.T32 : Bool × List (List Nat × List Nat) := (true, [([], []), ([], []), ([], []), ([], []), ([2, 3], [2, 3]), ([4], [4]), ([], []), ([], []), ([6, 7], [6, 7]), ([8], [8]), ([], []), ([5, 9, 10], [5, 9, 10]), ([0, 1, 0, 1, 2, 3, 4, 5, 6, 7, 8, 9, 10, 11], [0, 1]), ([12, 11, 11, 0, 1, 2, 3, 4, 5, 6, 7, 8, 9, 10, 11], [11, 12])])
def spec_InvM.B32 : List Nat := [0, 0, 0, 0, 12, 28, 0, 0, 192, 448, 0, 2044, 4095, 8191]
theorem spec_InvM.tab32 : rtab .any (opsOf Try.f32 32) = spec_InvM.T32 := by kernel_rfl
theorem spec_InvM.bits32 : waitsOk spec_InvM.T32.2 spec_InvM.B32 = true := by kernel_rfl
def spec_InvM.T33 : Bool × List (List Nat × List Nat) := (true, [([], []), ([], []), ([], []), ([], []), ([2, 3], [2, 3]), ([4], [4]), ([], []), ([], []), ([6, 7], [6, 7]), ([8], [8]), ([], []), ([5, 9, 10], [5, 9, 10]), ([0, 1, 0, 1, 2, 3, 4, 5, 6, 7, 8, 9, 10, 11], [0, 1]), ([12, 11, 11, 0, 1, 2, 3, 4, 5, 6, 7, 8, 9, 10, 11], [11, 12])])
def spec_InvM.B33 : List Nat := [0, 0, 0, 0, 12, 28, 0, 0, 192, 448, 0, 2044, 4095, 8191]
theorem spec_InvM.tab33 : rtab .any (opsOf Try.f32 33) = spec_InvM.T33 := by kernel_rfl
theorem spec_InvM.bits33 : waitsOk spec_InvM.T33.2 spec_InvM.B33 = true := by kernel_rfl
set_option maxHeartbeats 8000000 in
set_option maxRecDepth 100000 in
theorem spec_InvM.calls (k : Nat) (A0 : Option Addr) (c0 : Nat) (l0 : List (List Int)) (r1 : List (List Int)) (r2 : Bool) (w : World) (hr0 : Kd.C (Kd.slice 3 (Kd.int .i64)) w A0 l0.length l0) (hc0 : l0.length ≤ c0) (h : spec_InvM.f k l0 = some (r1, r2)) :
  Calls Try.prog 32 #[.slice A0 l0.length c0] w fun e w' => ∃ v0_ : Value, e = .returned (.tuple #[v0_, .bool r2]) ∧ Kd.N (Kd.slice 3 (Kd.int .i64)) 43 w' w.heap.size (fun k_ => (w.heap.size ≤ k_)) v0_ r1 ∧ Below w.heap.size w w' := by
 have HR0 := Aside0.mk hr0
 have HC0 := Aside0.mk hc0
 clear hr0 hc0
 have HB := Aside0.mk (Below.refl w.heap.size w)
 have H : ((spec_MatrixOk.f k l0).bind fun t298 => (if t298 = true then (if 0 < (l0.length : Int) then (spec_InvM.j0 k l0 ((l0.length : Int) != ((rd_L2 l0 0).length : Int))) else (none)) else (spec_InvM.j0 k l0 true))) = some (r1, r2) := h
 clear h
 have HC2 := Aside0.mk H
 clear H
 go_enter Try.func32, Try.ntmps32
 go_upto_region 1 with (fail)
 go_cut [26] (fun v26 wc => ∃ (kq : Nat) (x26_1 : Bool), v26 = .bool x26_1 ∧ Aside0 (spec_InvM.j0 kq l0 x26_1 = some (r1, r2)) ∧ Aside0 (kq ≤ k) ∧ Aside0 (Below w.heap.size w wc))
 case first =>
  have H := HC2.out
  clear HC2
  replace H := Option.bind_eq_some_iff.mp H
  obtain ⟨t298, A30, H⟩ := H
  replace H : (if t298 = true then (if 0 < (l0.length : Int) then (spec_InvM.j0 k l0 ((l0.length : Int) != ((rd_L2 l0 0).length : Int))) else (none)) else (spec_InvM.j0 k l0 true)) = some (r1, r2) := H
  have A3 := Aside0.mk A30
  clear A30
  by_cases c4 : t298 = true
  ·subst c4
   have H1 : (if 0 < (l0.length : Int) then (spec_InvM.j0 k l0 ((l0.length : Int) != ((rd_L2 l0 0).length : Int))) else (none)) = some (r1, r2) := by rw [if_pos rfl] at H; exact H
   clear H
   have H := H1
   clear H1
   by_cases c5 : 0 < (l0.length : Int)
   ·rw [if_pos c5] at H
    have c5b0 : decide (0 < (l0.length : Int)) = true := decide_eq_true c5
    have c5b1 : decide (0 < l0.length) = true := decide_eq_true (by omega)
    clear c5
    (first | rw [c5b0] | (simp only [i64_w, i32_w]; rw [c5b0]) | rw [c5b1] | skip)
    have H' := Aside0.mk H
    clear H
    go_wp2_with (first | ((with_reducible refine gate_callee (f := 12) rfl ?_); refine goesL_ (some 16) rfl rfl Try.func12 (by kernel_rfl) rfl #[.slice A0 l0.length c0] rfl (by (try simp only [List.map_toArray, List.map_cons, List.map_nil]); first | done | rfl) ?_; (with_reducible refine (spec_MatrixOk.calls k _ _ l0 true _ ?side1 ?side2 A3.out).mono ?_); (case side1 => repeat (first | exact (Kd.C_below HR0.out HB.out) | (with_reducible refine Kd.C_alloc ?_ _) | (with_reducible refine Kd.C_drewN ?_ _) | (with_reducible refine Kd.C_drew ?_))); (case side2 => exact HC0.out); rintro e w' ⟨rfl, ⟨nd, rfl⟩⟩; refine ⟨_, rfl, ?_⟩; have p299 : 0 ≤ (0 : Int) := (by omega); have q299 : 0 < (l0.length : Int) := of_decide_eq_true (by assumption); obtain ⟨ad299, A299_0, c299_0, e299, hx299_0, hl299_0, hi299_0⟩ := at_L2 HR0.out 0 p299 q299; cases e299; have qi299 : (0 < l0.length) = True := eq_true (by omega); (try rw [show ((0 : Int)).toNat = 0 from rfl] at hx299_0); (try rw [Addr.add_zero'] at hx299_0); replace hx299_0 := (HB.out.cell (World.block_lt_of_cell? w _ hx299_0)).trans hx299_0; have HR299_0 := Aside0.mk hi299_0; have HC299_0 := Aside0.mk hl299_0; clear hi299_0 hl299_0; replace p299 := eq_true p299; replace q299 := eq_true q299))
    go_meet
    case rel => exact ⟨_, (((l0.length : Int) != ((rd_L2 l0 0).length : Int))), (by first | rfl | (simp; done) | (simp [*]; done)), H', ⟨by first | omega | exact Nat.le_refl _⟩, ⟨by repeat (first | exact HB.out | apply below_alloc | apply pw_below_drewN | apply below_drew1)⟩⟩
   ·rw [if_neg c5] at H
    exact absurd H (by simp)
  ·replace c4 := Bool.eq_false_iff.mpr c4
   subst c4
   have H1 : (spec_InvM.j0 k l0 true) = some (r1, r2) := by rw [if_neg (show ¬ (false = true) by decide)] at H; exact H
   clear H
   have H := H1
   clear H1
   have H' := Aside0.mk H
   clear H
   go_wp2_with (first | ((with_reducible refine gate_callee (f := 12) rfl ?_); refine goesL_ (some 16) rfl rfl Try.func12 (by kernel_rfl) rfl #[.slice A0 l0.length c0] rfl (by (try simp only [List.map_toArray, List.map_cons, List.map_nil]); first | done | rfl) ?_; (with_reducible refine (spec_MatrixOk.calls k _ _ l0 false _ ?side1 ?side2 A3.out).mono ?_); (case side1 => repeat (first | exact (Kd.C_below HR0.out HB.out) | (with_reducible refine Kd.C_alloc ?_ _) | (with_reducible refine Kd.C_drewN ?_ _) | (with_reducible refine Kd.C_drew ?_))); (case side2 => exact HC0.out); rintro e w' ⟨rfl, ⟨nd, rfl⟩⟩; refine ⟨_, rfl, ?_⟩))
   go_meet
   case rel => exact ⟨_, (true), (by first | rfl | (simp; done) | (simp [*]; done)), H', ⟨by first | omega | exact Nat.le_refl _⟩, ⟨by repeat (first | exact HB.out | apply below_alloc | apply pw_below_drewN | apply below_drew1)⟩⟩
 case rest =>
  clear HC2
  obtain ⟨kq, x26_1, rfl, HA, HJ1, HB⟩ := hcut
  cases kq with
  | zero => exact absurd HA.out (by simp [spec_InvM.j0])
  | succ kj1 =>
   have H := HA.out
   clear HA
   simp only [spec_InvM.j0] at H
   by_cases c6 : x26_1 = true
   ·subst c6
    have H1 : (some ((([] : List (List Int))), false)) = some (r1, r2) := by rw [if_pos rfl] at H; exact H
    clear H
    have H := H1
    clear H1
    obtain ⟨y300, hy300⟩ : ∃ y_ : List (List Int), y_ = (([] : List (List Int))) := ⟨_, rfl⟩
    replace H : (some (y300, false)) = some (r1, r2) := by first | (rw [hy300]; with_reducible exact H) | (have H2_ := (Option.bind_some _ _).symm.trans H; rw [hy300]; with_reducible exact H2_) | (have H2_ := (Option.bind_some _ _).symm.trans H; with_reducible exact H2_) | with_reducible exact H | (rw [hy300]; exact H) | exact H
    have Ny300 := Aside0.mk hy300
    clear hy300
    simp only [Option.some.injEq, Prod.mk.injEq] at H
    obtain ⟨rfl, rfl⟩ := H
    go_wp2_with (first | ((with_reducible refine gate_dst (N := 27) rfl ?_); (try (refine gate_guard (by rfl) ?_; dsimp only)); refine Kd.N_lit (Kd.slice 3 (Kd.int .i64)) _ 43 ?hg (N' := 27) ?hd (xs := ([] : List (List Int))) (inner := []) (ok := (fun k_ => (w.heap.size ≤ k_))) (okp := (fun k_ => (w.heap.size ≤ k_))) ?hr ?hp (fun _ hk => hk) ((show ∀ k_, wc.heap.size ≤ k_ → (fun k_ => (w.heap.size ≤ k_)) k_ from fun k_ hk => (Nat.le_trans (below_size (by repeat (first | exact HB.out | apply below_alloc | apply pw_below_drewN | apply below_drew1))) hk)) _ (Nat.le_refl _)) (Below.refl _ _) (Nat.le_refl _) (by simp) ?_; (case hd => rfl); (case hg => rfl); (case hr => first | (go_simp; done) | (go_simp; rfl)); (case hp => exact (Reps.none _ _)); intro v301 w7 ho8 hb hg_ hnew_; clear hg_ hnew_; (first | rw [← Ny300.out] at ho8 | (simp only [Int.reduceToNat] at ho8; rw [← Ny300.out] at ho8)); have n0_ := Aside0.mk (Kd.N_lower ho8 (below_size (by repeat (first | exact HB.out | apply below_alloc | apply pw_below_drewN | apply below_drew1)))); have n1_ := Aside0.mk (below_step (by repeat (first | exact HB.out | apply below_alloc | apply pw_below_drewN | apply below_drew1)) hb); clear HB; have HO302 := n0_; have HB := n1_; clear n0_ n1_; clear hb ho8))
    go_ret2
    exact ⟨_, by first | rfl | (simp [errW_none, errW_some] <;> rfl) | (simp [*, errW_none, errW_some] <;> rfl), by exact HO302.out, by repeat (first | exact HB.out | apply below_alloc | apply pw_below_drewN | apply below_drew1)⟩
   ·replace c6 := Bool.eq_false_iff.mpr c6
    subst c6
    have H1 : (spec_InvM.l0 kj1 l0 (l0.length : Int) (([] : List (List Int))) 0) = some (r1, r2) := by rw [if_neg (show ¬ (false = true) by decide)] at H; exact H
    clear H
    have H := H1
    clear H1
    obtain ⟨y303, hy303⟩ : ∃ y_ : List (List Int), y_ = (([] : List (List Int))) := ⟨_, rfl⟩
    replace H : (spec_InvM.l0 kj1 l0 (l0.length : Int) y303 0) = some (r1, r2) := by first | (rw [hy303]; with_reducible exact H) | (have H2_ := (Option.bind_some _ _).symm.trans H; rw [hy303]; with_reducible exact H2_) | (have H2_ := (Option.bind_some _ _).symm.trans H; with_reducible exact H2_) | with_reducible exact H | (rw [hy303]; exact H) | exact H
    have Ny303 := Aside0.mk hy303
    clear hy303
    have H' := Aside0.mk H
    clear H
    go_wp2_with (first | ((with_reducible refine gate_dst (N := 30) rfl ?_); (try (refine gate_guard (by rfl) ?_; dsimp only)); refine Kd.N_lit (Kd.slice 3 (Kd.int .i64)) _ 43 ?hg (N' := 30) ?hd (xs := ([] : List (List Int))) (inner := []) (ok := (fun k_ => (w.heap.size ≤ k_))) (okp := (fun k_ => (w.heap.size ≤ k_))) ?hr ?hp (fun _ hk => hk) ((show ∀ k_, wc.heap.size ≤ k_ → (fun k_ => (w.heap.size ≤ k_)) k_ from fun k_ hk => (Nat.le_trans (below_size (by repeat (first | exact HB.out | apply below_alloc | apply pw_below_drewN | apply below_drew1))) hk)) _ (Nat.le_refl _)) (Below.refl _ _) (Nat.le_refl _) (by simp) ?_; (case hd => rfl); (case hg => rfl); (case hr => first | (go_simp; done) | (go_simp; rfl)); (case hp => exact (Reps.none _ _)); intro v304 w9 ho10 hb hg_ hnew_; clear hg_ hnew_; (first | rw [← Ny303.out] at ho10 | (simp only [Int.reduceToNat] at ho10; rw [← Ny303.out] at ho10)); have n0_ := Aside0.mk (Kd.N_lower ho10 (below_size (by repeat (first | exact HB.out | apply below_alloc | apply pw_below_drewN | apply below_drew1)))); have n1_ := Aside0.mk (below_step (by repeat (first | exact HB.out | apply below_alloc | apply pw_below_drewN | apply below_drew1)) hb); clear HB; have HO305 := n0_; have HB := n1_; clear n0_ n1_; clear hb ho10))
    go_loopg [5, 6] kj1 (fun kq v5 v6 w' => ∃ (x5_2 : List (List Int)) (x6_2 : Int), v6 = .int .i64 x6_2 ∧ Aside0 (spec_InvM.l0 kq l0 (l0.length : Int) x5_2 x6_2 = some (r1, r2)) ∧ Aside0 (kq ≤ kj1) ∧ Aside0 (Kd.N (Kd.slice 3 (Kd.int .i64)) 43 w' w.heap.size (fun k_ => (w.heap.size ≤ k_)) v5 x5_2) ∧ Aside0 (Below w.heap.size w w'))
    case atStart => exact ⟨(y303), (0), (by first | rfl | (simp; done) | (simp [*]; done)), H', ⟨Nat.le_refl _⟩, ⟨by exact HO305.out⟩, ⟨by repeat (first | exact HB.out | apply below_alloc | apply pw_below_drewN | apply below_drew1)⟩⟩
    case round =>
     clear H'
     obtain ⟨x5_2, x6_2, rfl, HA, HK2, HO_5, HB⟩ := hrel
     cases gk with
     | zero => exact absurd HA.out (by simp [spec_InvM.l0])
     | succ k2 =>
      have H := HA.out
      clear HA
      simp only [spec_InvM.l0] at H
      by_cases c11 : x6_2 < (l0.length : Int)
      ·rw [if_pos c11] at H
       have c11b0 : decide (x6_2 < (l0.length : Int)) = true := decide_eq_true c11
       clear c11
       obtain ⟨y306, hy306⟩ : ∃ y_ : List Int, y_ = (([] : List Int)) := ⟨_, rfl⟩
       replace H : (if 0 ≤ x6_2 then (if x6_2 < (l0.length : Int) then (if y306.length + (rd_L2 l0 x6_2).length < 17592186044416 then (if x5_2.length < 5864062014805 then (spec_InvM.l0 k2 l0 (l0.length : Int) (x5_2 ++ [(y306 ++ (rd_L2 l0 x6_2))]) (wrap64 (x6_2 + 1))) else (none)) else (none)) else (none)) else (none)) = some (r1, r2) := by first | (rw [hy306]; with_reducible exact H) | (have H2_ := (Option.bind_some _ _).symm.trans H; rw [hy306]; with_reducible exact H2_) | (have H2_ := (Option.bind_some _ _).symm.trans H; with_reducible exact H2_) | with_reducible exact H | (rw [hy306]; exact H) | exact H
       have Ny306 := Aside0.mk hy306
       clear hy306
       by_cases c12 : 0 ≤ x6_2
       ·rw [if_pos c12] at H
        have c12b0 : decide (0 ≤ x6_2) = true := decide_eq_true c12
        clear c12
        by_cases c13 : x6_2 < (l0.length : Int)
        ·rw [if_pos c13] at H
         have c13b0 : decide (x6_2 < (l0.length : Int)) = true := decide_eq_true c13
         clear c13
         by_cases c14 : y306.length + (rd_L2 l0 x6_2).length < 17592186044416
         ·rw [if_pos c14] at H
          have LMc14 := Aside0.mk c14
          clear c14
          obtain ⟨y310, hy310⟩ : ∃ y_ : List Int, y_ = (y306 ++ (rd_L2 l0 x6_2)) := ⟨_, rfl⟩
          replace H : (if x5_2.length < 5864062014805 then (spec_InvM.l0 k2 l0 (l0.length : Int) (x5_2 ++ [y310]) (wrap64 (x6_2 + 1))) else (none)) = some (r1, r2) := by first | (rw [hy310]; with_reducible exact H) | (have H2_ := (Option.bind_some _ _).symm.trans H; rw [hy310]; with_reducible exact H2_) | (have H2_ := (Option.bind_some _ _).symm.trans H; with_reducible exact H2_) | with_reducible exact H | (rw [hy310]; exact H) | exact H
          have Ny310 := Aside0.mk hy310
          clear hy310
          by_cases c15 : x5_2.length < 5864062014805
          ·rw [if_pos c15] at H
           have LMc15 := Aside0.mk c15
           clear c15
           obtain ⟨y313, hy313⟩ : ∃ y_ : List (List Int), y_ = (x5_2 ++ [y310]) := ⟨_, rfl⟩
           replace H : (spec_InvM.l0 k2 l0 (l0.length : Int) y313 (wrap64 (x6_2 + 1))) = some (r1, r2) := by first | (rw [hy313]; with_reducible exact H) | (have H2_ := (Option.bind_some _ _).symm.trans H; rw [hy313]; with_reducible exact H2_) | (have H2_ := (Option.bind_some _ _).symm.trans H; with_reducible exact H2_) | with_reducible exact H | (rw [hy313]; exact H) | exact H
           have Ny313 := Aside0.mk hy313
           clear hy313
           have H' := Aside0.mk H
           clear H
           go_wp2_with (first | ((with_reducible refine gate_dst (N := 37) rfl ?_); (try (refine gate_guard (by rfl) ?_; dsimp only)); refine Kd.R_lit (Kd.int .i64) _ 3 ?hg (N := 37) ?hd (xs := ([] : List Int)) (inner := []) (ok := fun _ => True) (okp := fun _ => True) ?hr ?hp (fun _ hk => hk) trivial (Below.refl _ _) (Nat.le_refl _) (by simp) ?_; (case hd => rfl); (case hg => rfl); (case hr => first | (go_simp; done) | (go_simp; rfl)); (case hp => exact (Reps.none _ _)); intro v307 w16 ho17 hb hg_ hnew_; clear hg_ hnew_; (first | rw [← Ny306.out] at ho17 | (simp only [Int.reduceToNat] at ho17; rw [← Ny306.out] at ho17)); have n0_ := Aside0.mk (Kd.N_elder' (by exact HO_5.out) (Kd.R_base ho17) hb); have n1_ := Aside0.mk (Kd.R_lower (Kd.R_newM (M := fun k_ => (w.heap.size ≤ k_)) ho17 (below_size (by repeat (first | exact HB.out | apply below_alloc | apply pw_below_drewN | apply below_drew1))) (fun k_ h_ => h_)) (below_size (by repeat (first | exact HB.out | apply below_alloc | apply pw_below_drewN | apply below_drew1)))); have n2_ := Aside0.mk (below_step (by repeat (first | exact HB.out | apply below_alloc | apply pw_below_drewN | apply below_drew1)) hb); clear HO_5; clear HB; have HO_5 := n0_; have HO308 := n1_; have HB := n2_; clear n0_ n1_ n2_; clear hb ho17; have p309 : 0 ≤ (x6_2 : Int) := of_decide_eq_true (by assumption); have q309 : x6_2 < (l0.length : Int) := of_decide_eq_true (by assumption); obtain ⟨ad309, A309_0, c309_0, e309, hx309_0, hl309_0, hi309_0⟩ := at_L2 HR0.out x6_2 p309 q309; cases e309; replace hx309_0 := (HB.out.cell (World.block_lt_of_cell? w _ hx309_0)).trans hx309_0; have HR309_0 := Aside0.mk hi309_0; have HC309_0 := Aside0.mk hl309_0; clear hi309_0 hl309_0; replace p309 := eq_true p309; replace q309 := eq_true q309) | ((with_reducible refine gate_builtin (b := .append) (xs := #[.tmp 37, .tmp 41]) rfl ?_); (try (refine gate_guard (by rfl) ?_; dsimp only)); at_builtin; refine Kd.R_append_rows (Kd.int .i64) (w0 := w) w.heap.size rfl (.tmp 37) (.tmp 41) 43 3 (.int .i64 0) 8 rfl Try.underlying43 info3 rfl (by decide) (by omega) v307 y306 (rd_L2 l0 x6_2) _ _ _ (fun k_ => (w.heap.size ≤ k_)) (fun _ => False) rfl rfl ?aO ?aR (fun _ _ h => h) (fun _ h => h.elim) ?aF ?aB ?aS ?aL ?_; (case aR => repeat (first | exact (Kd.C_below HR309_0.out HB.out) | (with_reducible refine Kd.C_alloc ?_ _) | (with_reducible refine Kd.C_drewN ?_ _) | (with_reducible refine Kd.C_drew ?_))); (case aB => exact (by repeat (first | exact HB.out | apply below_alloc | apply pw_below_drewN | apply below_drew1))); (case aF => exact (fun k_ hk => (Nat.le_trans (below_size (by repeat (first | exact HB.out | apply below_alloc | apply pw_below_drewN | apply below_drew1))) hk))); (case aO => exact (by exact Kd.R_mono HO308.out (fun _ hk => hk.1))); (case aS => exact (below_size (by repeat (first | exact HB.out | apply below_alloc | apply pw_below_drewN | apply below_drew1)))); (case aL => have := LMc14.out; omega); intro v311 w18 ho hb hg hat; rw [← Ny310.out] at ho; have n0_ := Aside0.mk (Kd.N_afterv (ok := (fun k_ => (w.heap.size ≤ k_))) (by exact HO_5.out) hg hat); have n1_ := Aside0.mk (hb); have n2_ := Aside0.mk (ho); clear HO_5; clear HB; clear HO308; have HO_5 := n0_; have HB := n1_; have HO312 := n2_; clear n0_ n1_ n2_; clear ho hb hg hat; obtain ⟨Ao20, co20, eo20⟩ := Kd.R_slice HO312.out; subst eo20) | ((with_reducible refine gate_builtin (b := .append) (xs := #[.tmp 36, .tmp 43]) rfl ?_); (try (refine gate_guard (by rfl) ?_; dsimp only)); at_builtin; refine Kd.N_append (Kd.slice 3 (Kd.int .i64)) (w0 := w) w.heap.size rfl (.tmp 36) (.tmp 43) 22 43 (.slice none 0 0) 24 rfl Try.underlying22 info43 rfl (by decide) (by omega) u5 x5_2 y310 [.slice Ao20 y310.length co20] (fun k_ => (w.heap.size ≤ k_)) (fun k_ => ((fun k_ => (w.heap.size ≤ k_))) k_ ∧ some k_ ≠ (u5 : Value).ownBlock) rfl rfl ?aP (fun _ hk => hk) ?aF ?aO ?aB ?aS ?aL ?_; (case aP => exact (Kd.FK_slice_mk (Kd.R_reads' (Kd.R_mono (ok' := (fun k_ => ((fun k_ => (w.heap.size ≤ k_))) k_ ∧ some k_ ≠ (u5 : Value).ownBlock)) (Kd.R_apart' (HO312.out) (Kd.N_typed HO_5.out) (by decide)) (fun k_ hk => ⟨hk.1, hk.2⟩))).2.1 (Kd.R_F (Kd.R_mono (ok' := (fun k_ => ((fun k_ => (w.heap.size ≤ k_))) k_ ∧ some k_ ≠ (u5 : Value).ownBlock)) (Kd.R_apart' (HO312.out) (Kd.N_typed HO_5.out) (by decide)) (fun k_ hk => ⟨hk.1, hk.2⟩))))); (case aB => exact (by repeat (first | exact HB.out | apply below_alloc | apply pw_below_drewN | apply below_drew1))); (case aF => exact (fun k_ hk => (Nat.le_trans (below_size (by repeat (first | exact HB.out | apply below_alloc | apply pw_below_drewN | apply below_drew1))) hk))); (case aO => exact (by exact Kd.N_mono HO_5.out (fun _ hk => hk.1))); (case aS => exact (below_size (by repeat (first | exact HB.out | apply below_alloc | apply pw_below_drewN | apply below_drew1)))); (case aL => have := LMc15.out; omega); intro v314 w19 ho hb hg hat; rw [← Ny313.out] at ho; have n0_ := Aside0.mk (hb); have n1_ := Aside0.mk (ho); clear HB; clear HO_5; clear HO312; have HB := n0_; have HO315 := n1_; clear n0_ n1_; clear ho hb hg hat))
           go_roundg k2
           case measure => have := HJ1.out; have := HK2.out; omega
           case rel => exact ⟨(y313), (wrap64 (x6_2 + 1)), (by first | rfl | (simp; done) | (simp [*]; done)), H', ⟨by have := HJ1.out; have := HK2.out; omega⟩, ⟨by exact HO315.out⟩, ⟨by repeat (first | exact HB.out | apply below_alloc | apply pw_below_drewN | apply below_drew1)⟩⟩
          ·rw [if_neg c15] at H
           exact absurd H (by simp)
         ·rw [if_neg c14] at H
          exact absurd H (by simp)
        ·rw [if_neg c13] at H
         exact absurd H (by simp)
       ·rw [if_neg c12] at H
        exact absurd H (by simp)
      ·rw [if_neg c11] at H
       have c11b0 : decide (x6_2 < (l0.length : Int)) = false := decide_eq_false c11
       clear c11
       replace H := Option.bind_eq_some_iff.mp H
       obtain ⟨t316, A210, H⟩ := H
       replace H : (spec_InvM.l1 k2 (l0.length : Int) x5_2 t316 0) = some (r1, r2) := H
       have A21 := Aside0.mk A210
       clear A210
       have H' := Aside0.mk H
       clear H
       go_wp2_with (first | ((with_reducible refine gate_callee (f := 34) rfl ?_); refine goesL_ (some 46) rfl rfl Try.func34 (by kernel_rfl) rfl #[.int .i64 (l0.length : Int)] rfl (by (try simp only [List.map_toArray, List.map_cons, List.map_nil]); first | done | rfl) ?_; (with_reducible refine (spec_OneM.calls k2 (l0.length : Int) t316 _ A21.out).mono ?_); rintro e w22 ⟨v317, rfl, ho0, hb⟩; refine ⟨_, rfl, ?_⟩; have n0_ := Aside0.mk (Kd.N_elder' (by exact HO_5.out) (Kd.S_base ho0) hb); have n1_ := Aside0.mk (Kd.N_lower (Kd.N_mono (ok' := fun k_ => (w.heap.size ≤ k_) ∧ some k_ ≠ (u5 : Value).ownBlock) (Kd.S_N (Kd.S_bound ho0)) (fun k_ hk_ => ⟨(Nat.le_trans (below_size (by repeat (first | exact HB.out | apply below_alloc | apply pw_below_drewN | apply below_drew1))) hk_.2.1), (Kd.fresh' (Kd.N_lt (by exact HO_5.out)) k_ hk_.2.1)⟩)) (below_size (by repeat (first | exact HB.out | apply below_alloc | apply pw_below_drewN | apply below_drew1)))); have n2_ := Aside0.mk (below_step (by repeat (first | exact HB.out | apply below_alloc | apply pw_below_drewN | apply below_drew1)) hb); clear HO_5; clear HB; have HO_5 := n0_; have HO318 := n1_; have HB := n2_; clear n0_ n1_ n2_; (try clear hb); (try clear ho0)))
       go_loopg [8] k2 (fun kq v8 w' => ∃ (x5_3 : List (List Int)) (x7_3 : List (List Int)) (x8_3 : Int), v8 = .int .i64 x8_3 ∧ Aside0 (spec_InvM.l1 kq (l0.length : Int) x5_3 x7_3 x8_3 = some (r1, r2)) ∧ Aside0 (kq ≤ k2) ∧ Aside0 (Kd.N (Kd.slice 3 (Kd.int .i64)) 43 w' w.heap.size (fun k_ => (w.heap.size ≤ k_) ∧ some k_ ≠ (v317 : Value).ownBlock) u5 x5_3) ∧ Aside0 (Kd.N (Kd.slice 3 (Kd.int .i64)) 43 w' w.heap.size (fun k_ => (w.heap.size ≤ k_) ∧ some k_ ≠ (u5 : Value).ownBlock) v317 x7_3) ∧ Aside0 (Below w.heap.size w w'))
       case atStart => exact ⟨(x5_2), (t316), (0), (by first | rfl | (simp; done) | (simp [*]; done)), H', ⟨Nat.le_refl _⟩, ⟨by exact HO_5.out⟩, ⟨by exact HO318.out⟩, ⟨by repeat (first | exact HB.out | apply below_alloc | apply pw_below_drewN | apply below_drew1)⟩⟩
       case round =>
        clear H'
        obtain ⟨x5_3, x7_3, x8_3, rfl, HA, HK3, HO_5, HO_7, HB⟩ := hrel
        cases gk with
        | zero => exact absurd HA.out (by simp [spec_InvM.l1])
        | succ k3 =>
         have H := HA.out
         clear HA
         simp only [spec_InvM.l1] at H
         by_cases c23 : x8_3 < (l0.length : Int)
         ·rw [if_pos c23] at H
          have c23b0 : decide (x8_3 < (l0.length : Int)) = true := decide_eq_true c23
          clear c23
          have HC24 := Aside0.mk H
          clear H
          go_upto_block 4 with (fail)
          go_cut [9] (fun v9 wc => ∃ (kq : Nat) (x9_23 : Int), v9 = .int .i64 x9_23 ∧ Aside0 (spec_InvM.j4 kq (l0.length : Int) x5_3 x7_3 x8_3 x9_23 = some (r1, r2)) ∧ Aside0 (kq ≤ k3) ∧ Aside0 (Kd.N (Kd.slice 3 (Kd.int .i64)) 43 wc w.heap.size (fun k_ => (w.heap.size ≤ k_) ∧ some k_ ≠ (v317 : Value).ownBlock) u5 x5_3) ∧ Aside0 (Kd.N (Kd.slice 3 (Kd.int .i64)) 43 wc w.heap.size (fun k_ => (w.heap.size ≤ k_) ∧ some k_ ≠ (u5 : Value).ownBlock) v317 x7_3) ∧ Aside0 (Below w.heap.size w wc))
          case first =>
           have H := HC24.out
           clear HC24
           have H' := Aside0.mk H
           clear H
           go_wp2
           go_loopg [9] k3 (fun kq v9 w' => ∃ (x9_4 : Int), v9 = .int .i64 x9_4 ∧ Aside0 (spec_InvM.l2 kq (l0.length : Int) x5_3 x7_3 x8_3 x9_4 = some (r1, r2)) ∧ Aside0 (kq ≤ k3) ∧ Aside0 (Kd.N (Kd.slice 3 (Kd.int .i64)) 43 w' w.heap.size (fun k_ => (w.heap.size ≤ k_) ∧ some k_ ≠ (v317 : Value).ownBlock) u5 x5_3) ∧ Aside0 (Kd.N (Kd.slice 3 (Kd.int .i64)) 43 w' w.heap.size (fun k_ => (w.heap.size ≤ k_) ∧ some k_ ≠ (u5 : Value).ownBlock) v317 x7_3) ∧ Aside0 (Below w.heap.size w w'))
           case atStart => exact ⟨(x8_3), (by first | rfl | (simp; done) | (simp [*]; done)), H', ⟨Nat.le_refl _⟩, ⟨by exact HO_5.out⟩, ⟨by exact HO_7.out⟩, ⟨by repeat (first | exact HB.out | apply below_alloc | apply pw_below_drewN | apply below_drew1)⟩⟩
           case round =>
            clear H'
            obtain ⟨x9_4, rfl, HA, HK4, HO_5, HO_7, HB⟩ := hrel
            cases gk with
            | zero => exact absurd HA.out (by simp [spec_InvM.l2])
            | succ k4 =>
             have H := HA.out
             clear HA
             simp only [spec_InvM.l2] at H
             by_cases c25 : x9_4 < (l0.length : Int)
             ·rw [if_pos c25] at H
              have c25b0 : decide (x9_4 < (l0.length : Int)) = true := decide_eq_true c25
              clear c25
              (first | rw [c25b0] | (simp only [i64_w, i32_w]; rw [c25b0]) | rw [c25b1] | skip)
              by_cases c26 : 0 ≤ x9_4
              ·rw [if_pos c26] at H
               have c26b0 : decide (0 ≤ x9_4) = true := decide_eq_true c26
               clear c26
               by_cases c27 : x9_4 < (x5_3.length : Int)
               ·rw [if_pos c27] at H
                have c27b0 : decide (x9_4 < (x5_3.length : Int)) = true := decide_eq_true c27
                clear c27
                by_cases c28 : 0 ≤ x8_3
                ·rw [if_pos c28] at H
                 have c28b0 : decide (0 ≤ x8_3) = true := decide_eq_true c28
                 clear c28
                 by_cases c29 : x8_3 < ((rd_L2 x5_3 x9_4).length : Int)
                 ·rw [if_pos c29] at H
                  have c29b0 : decide (x8_3 < ((rd_L2 x5_3 x9_4).length : Int)) = true := decide_eq_true c29
                  clear c29
                  by_cases c30 : (rd (rd_L2 x5_3 x9_4) x8_3) = 0
                  ·rw [if_pos c30] at H
                   have c30b0 : ((rd (rd_L2 x5_3 x9_4) x8_3) == 0) = true := beq_iff_eq.mpr c30
                   have c30b1 : ((rd (rd_L2 x5_3 x9_4) x8_3) != 0) = false := bne_eq_false_iff_eq.mpr c30
                   clear c30
                   have H' := Aside0.mk H
                   clear H
                   obtain ⟨Ao31, co31, eo31⟩ := Kd.N_slice HO_5.out
                   subst eo31
                   have p319 : 0 ≤ (x9_4 : Int) := of_decide_eq_true (by assumption)
                   have q319 : x9_4 < (x5_3.length : Int) := of_decide_eq_true (by assumption)
                   obtain ⟨ad319, A319_0, c319_0, e319, hx319_0, hl319_0, hi319_0⟩ := at_L2 (Kd.N_reads' HO_5.out).2.2 x9_4 p319 q319
                   cases e319
                   obtain ⟨ce319, hce319, hMe319, hcc319⟩ := Kd.N_get HO_5.out [] x9_4 p319 (by first | exact q319 | exact of_decide_eq_true (by assumption) | (have e_ := (Kd.N_reads' HO_5.out).1; omega))
                   obtain ⟨ua319_0, uc319_0, rfl, ul319_0, ge319_0⟩ := Kd.FK_slice_open hMe319
                   have hv319_0 := hcc319 0 _ rfl
                   rw [Nat.add_zero, show ((Kd.slice 3 (Kd.int .i64))).sz = 1 from rfl, Nat.mul_one] at hv319_0
                   replace hv319_0 := Option.some.inj (hv319_0.symm.trans hx319_0)
                   injection hv319_0 with hva_ hvn_ hvc_
                   rw [hva_] at ge319_0
                   rw [hvc_] at ul319_0
                   have HL319_0 := Aside0.mk (show Kd.V (Kd.int .i64) 3 _ w.heap.size _ _ (rd_L2 x5_3 x9_4) from Kd.V_mk ul319_0 ge319_0)
                   clear hva_ hvn_ hvc_ ge319_0 ul319_0
                   clear hcc319 hce319
                   have HR319_0 := Aside0.mk hi319_0
                   have HC319_0 := Aside0.mk hl319_0
                   clear hi319_0 hl319_0
                   replace p319 := eq_true p319
                   replace q319 := eq_true q319
                   have p320 : 0 ≤ (x8_3 : Int) := of_decide_eq_true (by assumption)
                   have q320 : x8_3 < ((rd_L2 x5_3 x9_4).length : Int) := of_decide_eq_true (by assumption)
                   obtain ⟨ad320, e320, hx320_0⟩ := Kd.at_int (by repeat (first | (with_reducible exact HR319_0.out) | (with_reducible refine Kd.C_alloc ?_ _) | (with_reducible refine Kd.C_drewN ?_ _) | (with_reducible refine Kd.C_drew ?_) | exact HR319_0.out)) x8_3 p320 q320
                   cases e320
                   replace p320 := eq_true p320
                   replace q320 := eq_true q320
                   go_wp2
                   go_roundg k4
                   case measure => have := HJ1.out; have := HK2.out; have := HK3.out; have := HK4.out; omega
                   case rel => exact ⟨(wrap64 (x9_4 + 1)), (by first | rfl | (simp; done) | (simp [*]; done)), H', ⟨by have := HJ1.out; have := HK2.out; have := HK3.out; have := HK4.out; omega⟩, ⟨by exact HO_5.out⟩, ⟨by exact HO_7.out⟩, ⟨by repeat (first | exact HB.out | apply below_alloc | apply pw_below_drewN | apply below_drew1)⟩⟩
                  ·rw [if_neg c30] at H
                   have c30b0 : ((rd (rd_L2 x5_3 x9_4) x8_3) == 0) = false := beq_eq_false_iff_ne.mpr c30
                   have c30b1 : ((rd (rd_L2 x5_3 x9_4) x8_3) != 0) = true := bne_iff_ne.mpr c30
                   have H' := Aside0.mk H
                   clear H
                   obtain ⟨Ao32, co32, eo32⟩ := Kd.N_slice HO_5.out
                   subst eo32
                   have p319 : 0 ≤ (x9_4 : Int) := of_decide_eq_true (by assumption)
                   have q319 : x9_4 < (x5_3.length : Int) := of_decide_eq_true (by assumption)
                   obtain ⟨ad319, A319_0, c319_0, e319, hx319_0, hl319_0, hi319_0⟩ := at_L2 (Kd.N_reads' HO_5.out).2.2 x9_4 p319 q319
                   cases e319
                   obtain ⟨ce319, hce319, hMe319, hcc319⟩ := Kd.N_get HO_5.out [] x9_4 p319 (by first | exact q319 | exact of_decide_eq_true (by assumption) | (have e_ := (Kd.N_reads' HO_5.out).1; omega))
                   obtain ⟨ua319_0, uc319_0, rfl, ul319_0, ge319_0⟩ := Kd.FK_slice_open hMe319
                   have hv319_0 := hcc319 0 _ rfl
                   rw [Nat.add_zero, show ((Kd.slice 3 (Kd.int .i64))).sz = 1 from rfl, Nat.mul_one] at hv319_0
                   replace hv319_0 := Option.some.inj (hv319_0.symm.trans hx319_0)
                   injection hv319_0 with hva_ hvn_ hvc_
                   rw [hva_] at ge319_0
                   rw [hvc_] at ul319_0
                   have HL319_0 := Aside0.mk (show Kd.V (Kd.int .i64) 3 _ w.heap.size _ _ (rd_L2 x5_3 x9_4) from Kd.V_mk ul319_0 ge319_0)
                   clear hva_ hvn_ hvc_ ge319_0 ul319_0
                   clear hcc319 hce319
                   have HR319_0 := Aside0.mk hi319_0
                   have HC319_0 := Aside0.mk hl319_0
                   clear hi319_0 hl319_0
                   replace p319 := eq_true p319
                   replace q319 := eq_true q319
                   have p320 : 0 ≤ (x8_3 : Int) := of_decide_eq_true (by assumption)
                   have q320 : x8_3 < ((rd_L2 x5_3 x9_4).length : Int) := of_decide_eq_true (by assumption)
                   obtain ⟨ad320, e320, hx320_0⟩ := Kd.at_int (by repeat (first | (with_reducible exact HR319_0.out) | (with_reducible refine Kd.C_alloc ?_ _) | (with_reducible refine Kd.C_drewN ?_ _) | (with_reducible refine Kd.C_drew ?_) | exact HR319_0.out)) x8_3 p320 q320
                   cases e320
                   replace p320 := eq_true p320
                   replace q320 := eq_true q320
                   go_wp2
                   go_meet
                   case rel => exact ⟨_, (x9_4), (by first | rfl | (simp; done) | (simp [*]; done)), H', ⟨by have := HJ1.out; have := HK2.out; have := HK3.out; have := HK4.out; first | omega | exact Nat.le_refl _⟩, ⟨by exact HO_5.out⟩, ⟨by exact HO_7.out⟩, ⟨by repeat (first | exact HB.out | apply below_alloc | apply pw_below_drewN | apply below_drew1)⟩⟩
                 ·rw [if_neg c29] at H
                  exact absurd H (by simp)
                ·rw [if_neg c28] at H
                 exact absurd H (by simp)
               ·rw [if_neg c27] at H
                exact absurd H (by simp)
              ·rw [if_neg c26] at H
               exact absurd H (by simp)
             ·rw [if_neg c25] at H
              have c25b0 : decide (x9_4 < (l0.length : Int)) = false := decide_eq_false c25
              clear c25
              (first | rw [c25b0] | (simp only [i64_w, i32_w]; rw [c25b0]) | rw [c25b1] | skip)
              have H' := Aside0.mk H
              clear H
              go_wp2
              go_meet
              case rel => exact ⟨_, (x9_4), (by first | rfl | (simp; done) | (simp [*]; done)), H', ⟨by have := HJ1.out; have := HK2.out; have := HK3.out; have := HK4.out; first | omega | exact Nat.le_refl _⟩, ⟨by exact HO_5.out⟩, ⟨by exact HO_7.out⟩, ⟨by repeat (first | exact HB.out | apply below_alloc | apply pw_below_drewN | apply below_drew1)⟩⟩
          case rest =>
           clear HC24
           obtain ⟨kq, x9_23, rfl, HA, HJ23, HO_5, HO_7, HB⟩ := hcut
           cases kq with
           | zero => exact absurd HA.out (by simp [spec_InvM.j4])
           | succ kj23 =>
            have H := HA.out
            clear HA
            simp only [spec_InvM.j4] at H
            by_cases c33 : x9_23 = (l0.length : Int)
            ·rw [if_pos c33] at H
             have c33b0 : (x9_23 == (l0.length : Int)) = true := beq_iff_eq.mpr c33
             have c33b1 : (x9_23 != (l0.length : Int)) = false := bne_eq_false_iff_eq.mpr c33
             clear c33
             obtain ⟨y321, hy321⟩ : ∃ y_ : List (List Int), y_ = (([] : List (List Int))) := ⟨_, rfl⟩
             replace H : (some (y321, false)) = some (r1, r2) := by first | (rw [hy321]; with_reducible exact H) | (have H2_ := (Option.bind_some _ _).symm.trans H; rw [hy321]; with_reducible exact H2_) | (have H2_ := (Option.bind_some _ _).symm.trans H; with_reducible exact H2_) | with_reducible exact H | (rw [hy321]; exact H) | exact H
             have Ny321 := Aside0.mk hy321
             clear hy321
             simp only [Option.some.injEq, Prod.mk.injEq] at H
             obtain ⟨rfl, rfl⟩ := H
             go_wp2_with (first | ((with_reducible refine gate_dst (N := 71) rfl ?_); (try (refine gate_guard (by rfl) ?_; dsimp only)); refine Kd.N_lit (Kd.slice 3 (Kd.int .i64)) _ 43 ?hg (N' := 71) ?hd (xs := ([] : List (List Int))) (inner := []) (ok := (fun k_ => (w.heap.size ≤ k_) ∧ some k_ ≠ (u5 : Value).ownBlock ∧ some k_ ≠ (v317 : Value).ownBlock)) (okp := (fun k_ => (w.heap.size ≤ k_) ∧ some k_ ≠ (u5 : Value).ownBlock ∧ some k_ ≠ (v317 : Value).ownBlock)) ?hr ?hp (fun _ hk => hk) ((show ∀ k_, wc.heap.size ≤ k_ → (fun k_ => (w.heap.size ≤ k_) ∧ some k_ ≠ (u5 : Value).ownBlock ∧ some k_ ≠ (v317 : Value).ownBlock) k_ from fun k_ hk => ⟨(Nat.le_trans (below_size (by repeat (first | exact HB.out | apply below_alloc | apply pw_below_drewN | apply below_drew1))) hk), Kd.fresh' (Kd.N_lt (by exact HO_5.out)) k_ hk, Kd.fresh' (Kd.N_lt (by exact HO_7.out)) k_ hk⟩) _ (Nat.le_refl _)) (Below.refl _ _) (Nat.le_refl _) (by simp) ?_; (case hd => rfl); (case hg => rfl); (case hr => first | (go_simp; done) | (go_simp; rfl)); (case hp => exact (Reps.none _ _)); intro v322 w34 ho35 hb hg_ hnew_; clear hg_ hnew_; (first | rw [← Ny321.out] at ho35 | (simp only [Int.reduceToNat] at ho35; rw [← Ny321.out] at ho35)); have n0_ := Aside0.mk (Kd.N_elder' (by exact HO_5.out) (Kd.N_base ho35) hb); have n1_ := Aside0.mk (Kd.N_elder' (by exact HO_7.out) (Kd.N_base ho35) hb); have n2_ := Aside0.mk (Kd.N_lower ho35 (below_size (by repeat (first | exact HB.out | apply below_alloc | apply pw_below_drewN | apply below_drew1)))); have n3_ := Aside0.mk (below_step (by repeat (first | exact HB.out | apply below_alloc | apply pw_below_drewN | apply below_drew1)) hb); clear HO_5; clear HO_7; clear HB; have HO_5 := n0_; have HO_7 := n1_; have HO323 := n2_; have HB := n3_; clear n0_ n1_ n2_ n3_; clear hb ho35))
             go_ret2
             exact ⟨_, by first | rfl | (simp [errW_none, errW_some] <;> rfl) | (simp [*, errW_none, errW_some] <;> rfl), by exact Kd.N_mono HO323.out (fun _ hk => hk.1), by repeat (first | exact HB.out | apply below_alloc | apply pw_below_drewN | apply below_drew1)⟩
            ·rw [if_neg c33] at H
             have c33b0 : (x9_23 == (l0.length : Int)) = false := beq_eq_false_iff_ne.mpr c33
             have c33b1 : (x9_23 != (l0.length : Int)) = true := bne_iff_ne.mpr c33
             by_cases c36 : 0 ≤ x9_23
             ·rw [if_pos c36] at H
              have c36b0 : decide (0 ≤ x9_23) = true := decide_eq_true c36
              clear c36
              by_cases c37 : x9_23 < (x5_3.length : Int)
              ·rw [if_pos c37] at H
               have c37b0 : decide (x9_23 < (x5_3.length : Int)) = true := decide_eq_true c37
               clear c37
               by_cases c38 : 0 ≤ x8_3
               ·rw [if_pos c38] at H
                have c38b0 : decide (0 ≤ x8_3) = true := decide_eq_true c38
                clear c38
                by_cases c39 : x8_3 < (x5_3.length : Int)
                ·rw [if_pos c39] at H
                 have c39b0 : decide (x8_3 < (x5_3.length : Int)) = true := decide_eq_true c39
                 clear c39
                 obtain ⟨y326, hy326⟩ : ∃ y_ : List (List Int), y_ = (x5_3.set (x9_23 : Int).toNat (rd_L2 x5_3 x8_3)) := ⟨_, rfl⟩
                 replace H : ((some (y326.set (x8_3 : Int).toNat (rd_L2 x5_3 x9_23) : List (List Int))).bind fun y327 => (if x9_23 < (x7_3.length : Int) then (if x8_3 < (x7_3.length : Int) then ((some ((x7_3.set (x9_23 : Int).toNat (rd_L2 x7_3 x8_3)).set (x8_3 : Int).toNat (rd_L2 x7_3 x9_23) : List (List Int))).bind fun y331 => (if x8_3 < ((rd_L2 y327 x8_3).length : Int) then ((spec_InvG.f kj23 (rd (rd_L2 y327 x8_3) x8_3)).bind fun t334 => ((spec_l06Times.f kj23 (rd_L2 y327 x8_3) t334).bind fun t336 => ((spec_l06Times.f kj23 (rd_L2 y331 x8_3) t334).bind fun t341 => (spec_InvM.l3 kj23 (l0.length : Int) (y327.set (x8_3 : Int).toNat t336) (y331.set (x8_3 : Int).toNat t341) x8_3 0)))) else (none))) else (none)) else (none))) = some (r1, r2) := by first | (rw [hy326]; with_reducible exact H) | (have H2_ := (Option.bind_some _ _).symm.trans H; rw [hy326]; with_reducible exact H2_) | (have H2_ := (Option.bind_some _ _).symm.trans H; with_reducible exact H2_) | with_reducible exact H | (rw [hy326]; exact H) | exact H
                 have Ny326 := Aside0.mk hy326
                 clear hy326
                 obtain ⟨y327, hy327⟩ : ∃ y_ : List (List Int), y_ = (y326.set (x8_3 : Int).toNat (rd_L2 x5_3 x9_23)) := ⟨_, rfl⟩
                 replace H : (if x9_23 < (x7_3.length : Int) then (if x8_3 < (x7_3.length : Int) then ((some ((x7_3.set (x9_23 : Int).toNat (rd_L2 x7_3 x8_3)).set (x8_3 : Int).toNat (rd_L2 x7_3 x9_23) : List (List Int))).bind fun y331 => (if x8_3 < ((rd_L2 y327 x8_3).length : Int) then ((spec_InvG.f kj23 (rd (rd_L2 y327 x8_3) x8_3)).bind fun t334 => ((spec_l06Times.f kj23 (rd_L2 y327 x8_3) t334).bind fun t336 => ((spec_l06Times.f kj23 (rd_L2 y331 x8_3) t334).bind fun t341 => (spec_InvM.l3 kj23 (l0.length : Int) (y327.set (x8_3 : Int).toNat t336) (y331.set (x8_3 : Int).toNat t341) x8_3 0)))) else (none))) else (none)) else (none)) = some (r1, r2) := by first | (rw [hy327]; with_reducible exact H) | (have H2_ := (Option.bind_some _ _).symm.trans H; rw [hy327]; with_reducible exact H2_) | (have H2_ := (Option.bind_some _ _).symm.trans H; with_reducible exact H2_) | with_reducible exact H | (rw [hy327]; exact H) | exact H
                 have Ny327 := Aside0.mk hy327
                 clear hy327
                 by_cases c42 : x9_23 < (x7_3.length : Int)
                 ·rw [if_pos c42] at H
                  have c42b0 : decide (x9_23 < (x7_3.length : Int)) = true := decide_eq_true c42
                  clear c42
                  by_cases c43 : x8_3 < (x7_3.length : Int)
                  ·rw [if_pos c43] at H
                   have c43b0 : decide (x8_3 < (x7_3.length : Int)) = true := decide_eq_true c43
                   clear c43
                   obtain ⟨y330, hy330⟩ : ∃ y_ : List (List Int), y_ = (x7_3.set (x9_23 : Int).toNat (rd_L2 x7_3 x8_3)) := ⟨_, rfl⟩
                   replace H : ((some (y330.set (x8_3 : Int).toNat (rd_L2 x7_3 x9_23) : List (List Int))).bind fun y331 => (if x8_3 < ((rd_L2 y327 x8_3).length : Int) then ((spec_InvG.f kj23 (rd (rd_L2 y327 x8_3) x8_3)).bind fun t334 => ((spec_l06Times.f kj23 (rd_L2 y327 x8_3) t334).bind fun t336 => ((spec_l06Times.f kj23 (rd_L2 y331 x8_3) t334).bind fun t341 => (spec_InvM.l3 kj23 (l0.length : Int) (y327.set (x8_3 : Int).toNat t336) (y331.set (x8_3 : Int).toNat t341) x8_3 0)))) else (none))) = some (r1, r2) := by first | (rw [hy330]; with_reducible exact H) | (have H2_ := (Option.bind_some _ _).symm.trans H; rw [hy330]; with_reducible exact H2_) | (have H2_ := (Option.bind_some _ _).symm.trans H; with_reducible exact H2_) | with_reducible exact H | (rw [hy330]; exact H) | exact H
                   have Ny330 := Aside0.mk hy330
                   clear hy330
                   obtain ⟨y331, hy331⟩ : ∃ y_ : List (List Int), y_ = (y330.set (x8_3 : Int).toNat (rd_L2 x7_3 x9_23)) := ⟨_, rfl⟩
                   replace H : (if x8_3 < ((rd_L2 y327 x8_3).length : Int) then ((spec_InvG.f kj23 (rd (rd_L2 y327 x8_3) x8_3)).bind fun t334 => ((spec_l06Times.f kj23 (rd_L2 y327 x8_3) t334).bind fun t336 => ((spec_l06Times.f kj23 (rd_L2 y331 x8_3) t334).bind fun t341 => (spec_InvM.l3 kj23 (l0.length : Int) (y327.set (x8_3 : Int).toNat t336) (y331.set (x8_3 : Int).toNat t341) x8_3 0)))) else (none)) = some (r1, r2) := by first | (rw [hy331]; with_reducible exact H) | (have H2_ := (Option.bind_some _ _).symm.trans H; rw [hy331]; with_reducible exact H2_) | (have H2_ := (Option.bind_some _ _).symm.trans H; with_reducible exact H2_) | with_reducible exact H | (rw [hy331]; exact H) | exact H
                   have Ny331 := Aside0.mk hy331
                   clear hy331
                   by_cases c46 : x8_3 < ((rd_L2 y327 x8_3).length : Int)
                   ·rw [if_pos c46] at H
                    have c46b0 : decide (x8_3 < ((rd_L2 y327 x8_3).length : Int)) = true := decide_eq_true c46
                    clear c46
                    replace H := Option.bind_eq_some_iff.mp H
                    obtain ⟨t334, A470, H⟩ := H
                    replace H : ((spec_l06Times.f kj23 (rd_L2 y327 x8_3) t334).bind fun t336 => ((spec_l06Times.f kj23 (rd_L2 y331 x8_3) t334).bind fun t341 => (spec_InvM.l3 kj23 (l0.length : Int) (y327.set (x8_3 : Int).toNat t336) (y331.set (x8_3 : Int).toNat t341) x8_3 0))) = some (r1, r2) := H
                    have A47 := Aside0.mk A470
                    clear A470
                    replace H := Option.bind_eq_some_iff.mp H
                    obtain ⟨t336, A480, H⟩ := H
                    replace H : ((spec_l06Times.f kj23 (rd_L2 y331 x8_3) t334).bind fun t341 => (spec_InvM.l3 kj23 (l0.length : Int) (y327.set (x8_3 : Int).toNat t336) (y331.set (x8_3 : Int).toNat t341) x8_3 0)) = some (r1, r2) := H
                    have A48 := Aside0.mk A480
                    clear A480
                    obtain ⟨y339, hy339⟩ : ∃ y_ : List (List Int), y_ = (y327.set (x8_3 : Int).toNat t336) := ⟨_, rfl⟩
                    replace H : ((spec_l06Times.f kj23 (rd_L2 y331 x8_3) t334).bind fun t341 => (spec_InvM.l3 kj23 (l0.length : Int) y339 (y331.set (x8_3 : Int).toNat t341) x8_3 0)) = some (r1, r2) := by first | (rw [hy339]; with_reducible exact H) | (have H2_ := (Option.bind_some _ _).symm.trans H; rw [hy339]; with_reducible exact H2_) | (have H2_ := (Option.bind_some _ _).symm.trans H; with_reducible exact H2_) | with_reducible exact H | (rw [hy339]; exact H) | exact H
                    have Ny339 := Aside0.mk hy339
                    clear hy339
                    replace H := Option.bind_eq_some_iff.mp H
                    obtain ⟨t341, A500, H⟩ := H
                    replace H : (spec_InvM.l3 kj23 (l0.length : Int) y339 (y331.set (x8_3 : Int).toNat t341) x8_3 0) = some (r1, r2) := H
                    have A50 := Aside0.mk A500
                    clear A500
                    obtain ⟨y344, hy344⟩ : ∃ y_ : List (List Int), y_ = (y331.set (x8_3 : Int).toNat t341) := ⟨_, rfl⟩
                    replace H : (spec_InvM.l3 kj23 (l0.length : Int) y339 y344 x8_3 0) = some (r1, r2) := by first | (rw [hy344]; with_reducible exact H) | (have H2_ := (Option.bind_some _ _).symm.trans H; rw [hy344]; with_reducible exact H2_) | (have H2_ := (Option.bind_some _ _).symm.trans H; with_reducible exact H2_) | with_reducible exact H | (rw [hy344]; exact H) | exact H
                    have Ny344 := Aside0.mk hy344
                    clear hy344
                    have H' := Aside0.mk H
                    clear H
                    obtain ⟨Ao52, co52, eo52⟩ := Kd.N_slice HO_5.out
                    subst eo52
                    have p324 : 0 ≤ (x9_23 : Int) := of_decide_eq_true (by assumption)
                    have q324 : x9_23 < (x5_3.length : Int) := of_decide_eq_true (by assumption)
                    obtain ⟨ad324, A324_0, c324_0, e324, hx324_0, hl324_0, hi324_0⟩ := at_L2 (Kd.N_reads' HO_5.out).2.2 x9_23 p324 q324
                    cases e324
                    obtain ⟨ce324, hce324, hMe324, hcc324⟩ := Kd.N_get HO_5.out [] x9_23 p324 (by first | exact q324 | exact of_decide_eq_true (by assumption) | (have e_ := (Kd.N_reads' HO_5.out).1; omega))
                    obtain ⟨ua324_0, uc324_0, rfl, ul324_0, ge324_0⟩ := Kd.FK_slice_open hMe324
                    have hv324_0 := hcc324 0 _ rfl
                    rw [Nat.add_zero, show ((Kd.slice 3 (Kd.int .i64))).sz = 1 from rfl, Nat.mul_one] at hv324_0
                    replace hv324_0 := Option.some.inj (hv324_0.symm.trans hx324_0)
                    injection hv324_0 with hva_ hvn_ hvc_
                    rw [hva_] at ge324_0
                    rw [hvc_] at ul324_0
                    have HL324_0 := Aside0.mk (show Kd.V (Kd.int .i64) 3 _ w.heap.size _ _ (rd_L2 x5_3 x9_23) from Kd.V_mk ul324_0 ge324_0)
                    clear hva_ hvn_ hvc_ ge324_0 ul324_0
                    clear hcc324 hce324
                    have HR324_0 := Aside0.mk hi324_0
                    have HC324_0 := Aside0.mk hl324_0
                    clear hi324_0 hl324_0
                    replace p324 := eq_true p324
                    replace q324 := eq_true q324
                    have p325 : 0 ≤ (x8_3 : Int) := of_decide_eq_true (by assumption)
                    have q325 : x8_3 < (x5_3.length : Int) := of_decide_eq_true (by assumption)
                    obtain ⟨ad325, A325_0, c325_0, e325, hx325_0, hl325_0, hi325_0⟩ := at_L2 (Kd.N_reads' HO_5.out).2.2 x8_3 p325 q325
                    obtain rfl : ad324 = ad325 := (by injection e325)
                    obtain ⟨ce325, hce325, hMe325, hcc325⟩ := Kd.N_get HO_5.out [] x8_3 p325 (by first | exact q325 | exact of_decide_eq_true (by assumption) | (have e_ := (Kd.N_reads' HO_5.out).1; omega))
                    obtain ⟨ua325_0, uc325_0, rfl, ul325_0, ge325_0⟩ := Kd.FK_slice_open hMe325
                    have hv325_0 := hcc325 0 _ rfl
                    rw [Nat.add_zero, show ((Kd.slice 3 (Kd.int .i64))).sz = 1 from rfl, Nat.mul_one] at hv325_0
                    replace hv325_0 := Option.some.inj (hv325_0.symm.trans hx325_0)
                    injection hv325_0 with hva_ hvn_ hvc_
                    rw [hva_] at ge325_0
                    rw [hvc_] at ul325_0
                    have HL325_0 := Aside0.mk (show Kd.V (Kd.int .i64) 3 _ w.heap.size _ _ (rd_L2 x5_3 x8_3) from Kd.V_mk ul325_0 ge325_0)
                    clear hva_ hvn_ hvc_ ge325_0 ul325_0
                    clear hcc325 hce325
                    have HR325_0 := Aside0.mk hi325_0
                    have HC325_0 := Aside0.mk hl325_0
                    clear hi325_0 hl325_0
                    replace p325 := eq_true p325
                    replace q325 := eq_true q325
                    have p40 : 0 ≤ (x9_23 : Int) := of_decide_eq_true (by assumption)
                    have q40 : (x9_23 : Int) < ((x5_3.length : Int) : Int) := of_decide_eq_true (by assumption)
                    obtain ⟨go40, co40, eo40, gb40, gl40, cl40, HG40⟩ := Kd.N_form HO_5.out (by omega)
                    (first | cases eo40 | (injection eo40 with ea_ en_ ec_; (first | subst ea_ | (injection ea_ with ea_; subst ea_)); subst ec_; clear en_))
                    have GB40 := Aside0.mk gb40
                    have GG40 := Aside0.mk HG40
                    clear gb40 gl40 HG40
                    (first | simp only [add_plain] at hx324_0 | skip)
                    (first | simp only [add_plain] at hx325_0 | skip)
                    obtain ⟨ce40, hcl40, hM40, hcc40, hfr40⟩ := Kd.N_elem HO_5.out [] (x9_23 : Int) p40 q40
                    obtain ⟨ua40_0, uc40_0, rfl, ul40_0, ge40_0⟩ := Kd.FK_slice_open hM40
                    have hx40_0 := hcc40 0 _ rfl
                    have hf40_0 := hfr40 0
                    (try simp only [show ((Kd.slice 3 (Kd.int .i64))).sz = 1 from rfl, Nat.mul_one, Nat.add_zero] at hx40_0)
                    (try simp only [show ((Kd.slice 3 (Kd.int .i64))).sz = 1 from rfl, Nat.mul_one, Nat.add_zero] at hf40_0)
                    (try clear hM40); clear hcl40 hcc40 hfr40
                    replace p40 := eq_true p40
                    replace q40 := eq_true q40
                    have HX53 := Aside0.mk (show Kd.N (Kd.slice 3 (Kd.int .i64)) 43 wc w.heap.size (fun k_ => (w.heap.size ≤ k_) ∧ some k_ ≠ (v317 : Value).ownBlock) (.slice (some ⟨go40, 0, none⟩) x5_3.length co52) x5_3 from (by exact HO_5.out))
                    obtain ⟨ce53, hcl53, hM53, hcc53, hfr53⟩ := Kd.N_elem HX53.out [] (x9_23 : Int) (of_decide_eq_true (by assumption)) (by have h_ : (x9_23 : Int) < ((x5_3.length : Int) : Int) := of_decide_eq_true (by assumption); first | exact h_ | (have e_ := (Kd.N_reads' HO_5.out).1; omega) | simpa using h_)
                    obtain ⟨ua53_0, uc53_0, rfl, ul53_0, ge53_0⟩ := Kd.FK_slice_open hM53
                    have HP53 := Kd.N_seg HX53.out (x9_23 : Int) (of_decide_eq_true (by assumption)) (by have h_ : (x9_23 : Int) < ((x5_3.length : Int) : Int) := of_decide_eq_true (by assumption); first | exact h_ | (have e_ := (Kd.N_reads' HO_5.out).1; omega) | simpa using h_) (seg := [.slice A325_0 (rd_L2 x5_3 x8_3).length c325_0]) (j := 0) hcl53 hcc53 (show 1 ≤ 1 from by decide) (x' := rd_L2 x5_3 x8_3) (Kd.FK_slice_mk (Kd.V_reads' (Kd.V_mono (ok' := (fun k_ => ((fun k_ => (w.heap.size ≤ k_) ∧ some k_ ≠ (v317 : Value).ownBlock)) k_ ∧ k_ ≠ go40)) (HL325_0.out) (fun k_ hk => ⟨⟨hk.1.1, hk.1.2⟩, fun e_ => (hk.2) (by rw [e_]; rfl)⟩))).2.1 (Kd.V_F (Kd.V_mono (ok' := (fun k_ => ((fun k_ => (w.heap.size ≤ k_) ∧ some k_ ≠ (v317 : Value).ownBlock)) k_ ∧ k_ ≠ go40)) (HL325_0.out) (fun k_ hk => ⟨⟨hk.1.1, hk.1.2⟩, fun e_ => (hk.2) (by rw [e_]; rfl)⟩)))) (fun _ hk => hk)
                    have hx53_0 := hcc53 0 _ rfl
                    (try simp only [show ((Kd.slice 3 (Kd.int .i64))).sz = 1 from rfl, Nat.mul_one, Nat.add_zero] at hx53_0)
                    have hf53_0 := hfr53 0
                    (try simp only [show ((Kd.slice 3 (Kd.int .i64))).sz = 1 from rfl, Nat.mul_one, Nat.add_zero] at hf53_0)
                    (try clear hM53); clear hcl53 hcc53 hfr53
                    (try simp only [show ((Kd.slice 3 (Kd.int .i64))).sz = 1 from rfl, Nat.mul_one, Nat.add_zero] at HP53)
                    (try simp only [show ((Kd.slice 3 (Kd.int .i64))).sz = 1 from rfl, Nat.mul_one, Nat.add_zero] at HP53)
                    go_wp2_with (first | ((with_reducible refine gate_store (t := 43) (p := 82) rfl ?_); refine store_event (t := 43) (p := 82) (v := ?vo_w54) (w1 := (wc.setCell ⟨go40, (x9_23 : Int).toNat, none⟩ (.slice A325_0 (rd_L2 x5_3 x8_3).length c325_0))) ?hg ?ho ?hn ?hr ?_; (case ho => rfl); (case hg => rfl); (case hn => rfl); (case hr => first | (go_simp; done) | (go_simp; rfl)); intro w54 hw; have hg : wc.grownBy w54 (some go40) := (by rw [hw]; exact HP53.2); have hp_ : Kd.N (Kd.slice 3 (Kd.int .i64)) 43 w54 w.heap.size (fun k_ => (w.heap.size ≤ k_) ∧ some k_ ≠ (v317 : Value).ownBlock) (.slice (some ⟨go40, 0, none⟩) x5_3.length co52) y326 := (by rw [hw, Ny326.out]; exact HP53.1); clear HP53; have n0_ := Aside0.mk (hp_); have n1_ := Aside0.mk (Kd.N_afterv (v := (.slice (some ⟨go40, 0, none⟩) x5_3.length co52)) (v1 := (.slice (some ⟨go40, 0, none⟩) x5_3.length co52)) (ok := (fun k_ => (w.heap.size ≤ k_))) (by exact HO_7.out) hg (.inl rfl)); have n2_ := Aside0.mk (Kd.V_afterv (v := (.slice (some ⟨go40, 0, none⟩) x5_3.length co52)) (v1 := (.slice (some ⟨go40, 0, none⟩) x5_3.length co52)) (ok := (fun k_ => (w.heap.size ≤ k_) ∧ some k_ ≠ (v317 : Value).ownBlock)) (by exact HL324_0.out) hg (.inl rfl)); have n3_ := Aside0.mk (Kd.V_afterv (v := (.slice (some ⟨go40, 0, none⟩) x5_3.length co52)) (v1 := (.slice (some ⟨go40, 0, none⟩) x5_3.length co52)) (ok := (fun k_ => (w.heap.size ≤ k_) ∧ some k_ ≠ (v317 : Value).ownBlock)) (by exact HL325_0.out) hg (.inl rfl)); have n4_ := Aside0.mk ((by rw [hw]; exact below_set (HB.out) GB40.out : Below w.heap.size w w54)); clear HO_5; clear HO_7; clear HL324_0; clear HL325_0; clear HB; have HO_5 := n0_; have HO_7 := n1_; have HL324_0 := n2_; have HL325_0 := n3_; have HB := n4_; clear n0_ n1_ n2_ n3_ n4_; clear hg hw hp_; have p41 : 0 ≤ (x8_3 : Int) := of_decide_eq_true (by assumption); have q41 : (x8_3 : Int) < ((x5_3.length : Int) : Int) := of_decide_eq_true (by assumption); obtain ⟨ce41, hcl41, hM41, hcc41, hfr41⟩ := Kd.N_elem HO_5.out [] (x8_3 : Int) p41 q41; obtain ⟨ua41_0, uc41_0, rfl, ul41_0, ge41_0⟩ := Kd.FK_slice_open hM41; have hx41_0 := hcc41 0 _ rfl; have hf41_0 := hfr41 0; (try simp only [show ((Kd.slice 3 (Kd.int .i64))).sz = 1 from rfl, Nat.mul_one, Nat.add_zero] at hx41_0); (try simp only [show ((Kd.slice 3 (Kd.int .i64))).sz = 1 from rfl, Nat.mul_one, Nat.add_zero] at hf41_0); (try clear hM41); clear hcl41 hcc41 hfr41; replace p41 := eq_true p41; replace q41 := eq_true q41; have HX55 := Aside0.mk (show Kd.N (Kd.slice 3 (Kd.int .i64)) 43 w54 w.heap.size (fun k_ => (w.heap.size ≤ k_) ∧ some k_ ≠ (v317 : Value).ownBlock) (.slice (some ⟨go40, 0, none⟩) x5_3.length co52) y326 from (by exact HO_5.out)); obtain ⟨ce55, hcl55, hM55, hcc55, hfr55⟩ := Kd.N_elem HX55.out [] (x8_3 : Int) (of_decide_eq_true (by assumption)) (by have h_ : (x8_3 : Int) < ((x5_3.length : Int) : Int) := of_decide_eq_true (by assumption); first | exact h_ | (have e_ := (Kd.N_reads' HO_5.out).1; omega) | simpa using h_); obtain ⟨ua55_0, uc55_0, rfl, ul55_0, ge55_0⟩ := Kd.FK_slice_open hM55; have HP55 := Kd.N_seg HX55.out (x8_3 : Int) (of_decide_eq_true (by assumption)) (by have h_ : (x8_3 : Int) < ((x5_3.length : Int) : Int) := of_decide_eq_true (by assumption); first | exact h_ | (have e_ := (Kd.N_reads' HO_5.out).1; omega) | simpa using h_) (seg := [.slice A324_0 (rd_L2 x5_3 x9_23).length c324_0]) (j := 0) hcl55 hcc55 (show 1 ≤ 1 from by decide) (x' := rd_L2 x5_3 x9_23) (Kd.FK_slice_mk (Kd.V_reads' (Kd.V_mono (ok' := (fun k_ => ((fun k_ => (w.heap.size ≤ k_) ∧ some k_ ≠ (v317 : Value).ownBlock)) k_ ∧ k_ ≠ go40)) (HL324_0.out) (fun k_ hk => ⟨⟨hk.1.1, hk.1.2⟩, fun e_ => (hk.2) (by rw [e_]; rfl)⟩))).2.1 (Kd.V_F (Kd.V_mono (ok' := (fun k_ => ((fun k_ => (w.heap.size ≤ k_) ∧ some k_ ≠ (v317 : Value).ownBlock)) k_ ∧ k_ ≠ go40)) (HL324_0.out) (fun k_ hk => ⟨⟨hk.1.1, hk.1.2⟩, fun e_ => (hk.2) (by rw [e_]; rfl)⟩)))) (fun _ hk => hk); have hx55_0 := hcc55 0 _ rfl; (try simp only [show ((Kd.slice 3 (Kd.int .i64))).sz = 1 from rfl, Nat.mul_one, Nat.add_zero] at hx55_0); have hf55_0 := hfr55 0; (try simp only [show ((Kd.slice 3 (Kd.int .i64))).sz = 1 from rfl, Nat.mul_one, Nat.add_zero] at hf55_0); (try clear hM55); clear hcl55 hcc55 hfr55; (try simp only [show ((Kd.slice 3 (Kd.int .i64))).sz = 1 from rfl, Nat.mul_one, Nat.add_zero] at HP55); (try simp only [show ((Kd.slice 3 (Kd.int .i64))).sz = 1 from rfl, Nat.mul_one, Nat.add_zero] at HP55)) | ((with_reducible refine gate_store (t := 43) (p := 86) rfl ?_); refine store_event (t := 43) (p := 86) (v := ?vo_w56) (w1 := (w54.setCell ⟨go40, (x8_3 : Int).toNat, none⟩ (.slice A324_0 (rd_L2 x5_3 x9_23).length c324_0))) ?hg ?ho ?hn ?hr ?_; (case ho => rfl); (case hg => rfl); (case hn => rfl); (case hr => first | (go_simp; done) | (go_simp; rfl)); intro w56 hw; have hg : w54.grownBy w56 (some go40) := (by rw [hw]; exact HP55.2); have hp_ : Kd.N (Kd.slice 3 (Kd.int .i64)) 43 w56 w.heap.size (fun k_ => (w.heap.size ≤ k_) ∧ some k_ ≠ (v317 : Value).ownBlock) (.slice (some ⟨go40, 0, none⟩) x5_3.length co52) y327 := (by rw [hw, Ny327.out]; exact HP55.1); clear HP55; have n0_ := Aside0.mk (hp_); have n1_ := Aside0.mk (Kd.N_afterv (v := (.slice (some ⟨go40, 0, none⟩) x5_3.length co52)) (v1 := (.slice (some ⟨go40, 0, none⟩) x5_3.length co52)) (ok := (fun k_ => (w.heap.size ≤ k_))) (by exact HO_7.out) hg (.inl rfl)); have n2_ := Aside0.mk (Kd.V_afterv (v := (.slice (some ⟨go40, 0, none⟩) x5_3.length co52)) (v1 := (.slice (some ⟨go40, 0, none⟩) x5_3.length co52)) (ok := (fun k_ => (w.heap.size ≤ k_) ∧ some k_ ≠ (v317 : Value).ownBlock)) (by exact HL324_0.out) hg (.inl rfl)); have n3_ := Aside0.mk (Kd.V_afterv (v := (.slice (some ⟨go40, 0, none⟩) x5_3.length co52)) (v1 := (.slice (some ⟨go40, 0, none⟩) x5_3.length co52)) (ok := (fun k_ => (w.heap.size ≤ k_) ∧ some k_ ≠ (v317 : Value).ownBlock)) (by exact HL325_0.out) hg (.inl rfl)); have n4_ := Aside0.mk ((by rw [hw]; exact below_set (HB.out) GB40.out : Below w.heap.size w w56)); clear HO_5; clear HO_7; clear HL324_0; clear HL325_0; clear HB; have HO_5 := n0_; have HO_7 := n1_; have HL324_0 := n2_; have HL325_0 := n3_; have HB := n4_; clear n0_ n1_ n2_ n3_ n4_; clear hg hw hp_; obtain ⟨Ao57, co57, eo57⟩ := Kd.N_slice HO_7.out; subst eo57; have p328 : 0 ≤ (x9_23 : Int) := of_decide_eq_true (by assumption); have q328 : x9_23 < (x7_3.length : Int) := of_decide_eq_true (by assumption); obtain ⟨ad328, A328_0, c328_0, e328, hx328_0, hl328_0, hi328_0⟩ := at_L2 (Kd.N_reads' HO_7.out).2.2 x9_23 p328 q328; cases e328; obtain ⟨ce328, hce328, hMe328, hcc328⟩ := Kd.N_get HO_7.out [] x9_23 p328 (by first | exact q328 | exact of_decide_eq_true (by assumption) | (have e_ := (Kd.N_reads' HO_7.out).1; omega)); obtain ⟨ua328_0, uc328_0, rfl, ul328_0, ge328_0⟩ := Kd.FK_slice_open hMe328; have hv328_0 := hcc328 0 _ rfl; rw [Nat.add_zero, show ((Kd.slice 3 (Kd.int .i64))).sz = 1 from rfl, Nat.mul_one] at hv328_0; replace hv328_0 := Option.some.inj (hv328_0.symm.trans hx328_0); injection hv328_0 with hva_ hvn_ hvc_; rw [hva_] at ge328_0; rw [hvc_] at ul328_0; have HL328_0 := Aside0.mk (show Kd.V (Kd.int .i64) 3 _ w.heap.size _ _ (rd_L2 x7_3 x9_23) from Kd.V_mk ul328_0 ge328_0); clear hva_ hvn_ hvc_ ge328_0 ul328_0; clear hcc328 hce328; have HR328_0 := Aside0.mk hi328_0; have HC328_0 := Aside0.mk hl328_0; clear hi328_0 hl328_0; replace p328 := eq_true p328; replace q328 := eq_true q328; have p329 : 0 ≤ (x8_3 : Int) := of_decide_eq_true (by assumption); have q329 : x8_3 < (x7_3.length : Int) := of_decide_eq_true (by assumption); obtain ⟨ad329, A329_0, c329_0, e329, hx329_0, hl329_0, hi329_0⟩ := at_L2 (Kd.N_reads' HO_7.out).2.2 x8_3 p329 q329; obtain rfl : ad328 = ad329 := (by injection e329); obtain ⟨ce329, hce329, hMe329, hcc329⟩ := Kd.N_get HO_7.out [] x8_3 p329 (by first | exact q329 | exact of_decide_eq_true (by assumption) | (have e_ := (Kd.N_reads' HO_7.out).1; omega)); obtain ⟨ua329_0, uc329_0, rfl, ul329_0, ge329_0⟩ := Kd.FK_slice_open hMe329; have hv329_0 := hcc329 0 _ rfl; rw [Nat.add_zero, show ((Kd.slice 3 (Kd.int .i64))).sz = 1 from rfl, Nat.mul_one] at hv329_0; replace hv329_0 := Option.some.inj (hv329_0.symm.trans hx329_0); injection hv329_0 with hva_ hvn_ hvc_; rw [hva_] at ge329_0; rw [hvc_] at ul329_0; have HL329_0 := Aside0.mk (show Kd.V (Kd.int .i64) 3 _ w.heap.size _ _ (rd_L2 x7_3 x8_3) from Kd.V_mk ul329_0 ge329_0); clear hva_ hvn_ hvc_ ge329_0 ul329_0; clear hcc329 hce329; have HR329_0 := Aside0.mk hi329_0; have HC329_0 := Aside0.mk hl329_0; clear hi329_0 hl329_0; replace p329 := eq_true p329; replace q329 := eq_true q329; have p44 : 0 ≤ (x9_23 : Int) := of_decide_eq_true (by assumption); have q44 : (x9_23 : Int) < ((x7_3.length : Int) : Int) := of_decide_eq_true (by assumption); obtain ⟨go44, co44, eo44, gb44, gl44, cl44, HG44⟩ := Kd.N_form HO_7.out (by omega); (first | cases eo44 | (injection eo44 with ea_ en_ ec_; (first | subst ea_ | (injection ea_ with ea_; subst ea_)); subst ec_; clear en_)); have GB44 := Aside0.mk gb44; have GG44 := Aside0.mk HG44; clear gb44 gl44 HG44; (first | simp only [add_plain] at hx328_0 | skip); (first | simp only [add_plain] at hx329_0 | skip); obtain ⟨ce44, hcl44, hM44, hcc44, hfr44⟩ := Kd.N_elem HO_7.out [] (x9_23 : Int) p44 q44; obtain ⟨ua44_0, uc44_0, rfl, ul44_0, ge44_0⟩ := Kd.FK_slice_open hM44; have hx44_0 := hcc44 0 _ rfl; have hf44_0 := hfr44 0; (try simp only [show ((Kd.slice 3 (Kd.int .i64))).sz = 1 from rfl, Nat.mul_one, Nat.add_zero] at hx44_0); (try simp only [show ((Kd.slice 3 (Kd.int .i64))).sz = 1 from rfl, Nat.mul_one, Nat.add_zero] at hf44_0); (try clear hM44); clear hcl44 hcc44 hfr44; replace p44 := eq_true p44; replace q44 := eq_true q44; have HX58 := Aside0.mk (show Kd.N (Kd.slice 3 (Kd.int .i64)) 43 w56 w.heap.size (fun k_ => (w.heap.size ≤ k_) ∧ some k_ ≠ (.slice (some ⟨go40, 0, none⟩) x5_3.length co52 : Value).ownBlock) (.slice (some ⟨go44, 0, none⟩) x7_3.length co57) x7_3 from (by exact HO_7.out)); obtain ⟨ce58, hcl58, hM58, hcc58, hfr58⟩ := Kd.N_elem HX58.out [] (x9_23 : Int) (of_decide_eq_true (by assumption)) (by have h_ : (x9_23 : Int) < ((x7_3.length : Int) : Int) := of_decide_eq_true (by assumption); first | exact h_ | (have e_ := (Kd.N_reads' HO_7.out).1; omega) | simpa using h_); obtain ⟨ua58_0, uc58_0, rfl, ul58_0, ge58_0⟩ := Kd.FK_slice_open hM58; have HP58 := Kd.N_seg HX58.out (x9_23 : Int) (of_decide_eq_true (by assumption)) (by have h_ : (x9_23 : Int) < ((x7_3.length : Int) : Int) := of_decide_eq_true (by assumption); first | exact h_ | (have e_ := (Kd.N_reads' HO_7.out).1; omega) | simpa using h_) (seg := [.slice A329_0 (rd_L2 x7_3 x8_3).length c329_0]) (j := 0) hcl58 hcc58 (show 1 ≤ 1 from by decide) (x' := rd_L2 x7_3 x8_3) (Kd.FK_slice_mk (Kd.V_reads' (Kd.V_mono (ok' := (fun k_ => ((fun k_ => (w.heap.size ≤ k_) ∧ some k_ ≠ (.slice (some ⟨go40, 0, none⟩) x5_3.length co52 : Value).ownBlock)) k_ ∧ k_ ≠ go44)) (HL329_0.out) (fun k_ hk => ⟨⟨hk.1.1, hk.1.2⟩, fun e_ => (hk.2) (by rw [e_]; rfl)⟩))).2.1 (Kd.V_F (Kd.V_mono (ok' := (fun k_ => ((fun k_ => (w.heap.size ≤ k_) ∧ some k_ ≠ (.slice (some ⟨go40, 0, none⟩) x5_3.length co52 : Value).ownBlock)) k_ ∧ k_ ≠ go44)) (HL329_0.out) (fun k_ hk => ⟨⟨hk.1.1, hk.1.2⟩, fun e_ => (hk.2) (by rw [e_]; rfl)⟩)))) (fun _ hk => hk); have hx58_0 := hcc58 0 _ rfl; (try simp only [show ((Kd.slice 3 (Kd.int .i64))).sz = 1 from rfl, Nat.mul_one, Nat.add_zero] at hx58_0); have hf58_0 := hfr58 0; (try simp only [show ((Kd.slice 3 (Kd.int .i64))).sz = 1 from rfl, Nat.mul_one, Nat.add_zero] at hf58_0); (try clear hM58); clear hcl58 hcc58 hfr58; (try simp only [show ((Kd.slice 3 (Kd.int .i64))).sz = 1 from rfl, Nat.mul_one, Nat.add_zero] at HP58); (try simp only [show ((Kd.slice 3 (Kd.int .i64))).sz = 1 from rfl, Nat.mul_one, Nat.add_zero] at HP58)) | ((with_reducible refine gate_store (t := 43) (p := 97) rfl ?_); refine store_event (t := 43) (p := 97) (v := ?vo_w59) (w1 := (w56.setCell ⟨go44, (x9_23 : Int).toNat, none⟩ (.slice A329_0 (rd_L2 x7_3 x8_3).length c329_0))) ?hg ?ho ?hn ?hr ?_; (case ho => rfl); (case hg => rfl); (case hn => rfl); (case hr => first | (go_simp; done) | (go_simp; rfl)); intro w59 hw; have hg : w56.grownBy w59 (some go44) := (by rw [hw]; exact HP58.2); have hp_ : Kd.N (Kd.slice 3 (Kd.int .i64)) 43 w59 w.heap.size (fun k_ => (w.heap.size ≤ k_) ∧ some k_ ≠ (.slice (some ⟨go40, 0, none⟩) x5_3.length co52 : Value).ownBlock) (.slice (some ⟨go44, 0, none⟩) x7_3.length co57) y330 := (by rw [hw, Ny330.out]; exact HP58.1); clear HP58; have n0_ := Aside0.mk (Kd.N_afterv (v := (.slice (some ⟨go44, 0, none⟩) x7_3.length co57)) (v1 := (.slice (some ⟨go44, 0, none⟩) x7_3.length co57)) (ok := (fun k_ => (w.heap.size ≤ k_))) (by exact HO_5.out) hg (.inl rfl)); have n1_ := Aside0.mk (hp_); have n2_ := Aside0.mk (Kd.V_afterv (v := (.slice (some ⟨go44, 0, none⟩) x7_3.length co57)) (v1 := (.slice (some ⟨go44, 0, none⟩) x7_3.length co57)) (ok := (fun k_ => (w.heap.size ≤ k_) ∧ some k_ ≠ (.slice (some ⟨go40, 0, none⟩) x5_3.length co52 : Value).ownBlock)) (by exact Kd.V_mono HL324_0.out (fun _ hk => by first | exact ⟨⟨hk.1.1, hk.2⟩, hk.1.2⟩ | (repeat' (first | exact hk.1 | exact hk.2 | exact hk.1.1 | exact hk.1.2 | exact hk.2.1 | exact hk.2.2 | exact hk.1.1.1 | exact hk.1.1.2 | exact hk.1.2.1 | exact hk.1.2.2 | exact hk.2.1.1 | exact hk.2.1.2 | exact hk.2.2.1 | exact hk.2.2.2 | exact hk.1.1.1.1 | exact hk.1.1.1.2 | exact hk.1.1.2.1 | exact hk.1.1.2.2 | exact hk.1.2.1.1 | exact hk.1.2.1.2 | exact hk.1.2.2.1 | exact hk.1.2.2.2 | exact hk.2.1.1.1 | exact hk.2.1.1.2 | exact hk.2.1.2.1 | exact hk.2.1.2.2 | exact hk.2.2.1.1 | exact hk.2.2.1.2 | exact hk.2.2.2.1 | exact hk.2.2.2.2 | constructor)))) hg (.inl rfl)); have n3_ := Aside0.mk (Kd.V_afterv (v := (.slice (some ⟨go44, 0, none⟩) x7_3.length co57)) (v1 := (.slice (some ⟨go44, 0, none⟩) x7_3.length co57)) (ok := (fun k_ => (w.heap.size ≤ k_) ∧ some k_ ≠ (.slice (some ⟨go40, 0, none⟩) x5_3.length co52 : Value).ownBlock)) (by exact Kd.V_mono HL325_0.out (fun _ hk => by first | exact ⟨⟨hk.1.1, hk.2⟩, hk.1.2⟩ | (repeat' (first | exact hk.1 | exact hk.2 | exact hk.1.1 | exact hk.1.2 | exact hk.2.1 | exact hk.2.2 | exact hk.1.1.1 | exact hk.1.1.2 | exact hk.1.2.1 | exact hk.1.2.2 | exact hk.2.1.1 | exact hk.2.1.2 | exact hk.2.2.1 | exact hk.2.2.2 | exact hk.1.1.1.1 | exact hk.1.1.1.2 | exact hk.1.1.2.1 | exact hk.1.1.2.2 | exact hk.1.2.1.1 | exact hk.1.2.1.2 | exact hk.1.2.2.1 | exact hk.1.2.2.2 | exact hk.2.1.1.1 | exact hk.2.1.1.2 | exact hk.2.1.2.1 | exact hk.2.1.2.2 | exact hk.2.2.1.1 | exact hk.2.2.1.2 | exact hk.2.2.2.1 | exact hk.2.2.2.2 | constructor)))) hg (.inl rfl)); have n4_ := Aside0.mk (Kd.V_afterv (v := (.slice (some ⟨go44, 0, none⟩) x7_3.length co57)) (v1 := (.slice (some ⟨go44, 0, none⟩) x7_3.length co57)) (ok := (fun k_ => (w.heap.size ≤ k_) ∧ some k_ ≠ (.slice (some ⟨go40, 0, none⟩) x5_3.length co52 : Value).ownBlock)) (by exact HL328_0.out) hg (.inl rfl)); have n5_ := Aside0.mk (Kd.V_afterv (v := (.slice (some ⟨go44, 0, none⟩) x7_3.length co57)) (v1 := (.slice (some ⟨go44, 0, none⟩) x7_3.length co57)) (ok := (fun k_ => (w.heap.size ≤ k_) ∧ some k_ ≠ (.slice (some ⟨go40, 0, none⟩) x5_3.length co52 : Value).ownBlock)) (by exact HL329_0.out) hg (.inl rfl)); have n6_ := Aside0.mk ((by rw [hw]; exact below_set (HB.out) GB44.out : Below w.heap.size w w59)); clear HO_5; clear HO_7; clear HL324_0; clear HL325_0; clear HL328_0; clear HL329_0; clear HB; have HO_5 := n0_; have HO_7 := n1_; have HL324_0 := n2_; have HL325_0 := n3_; have HL328_0 := n4_; have HL329_0 := n5_; have HB := n6_; clear n0_ n1_ n2_ n3_ n4_ n5_ n6_; clear hg hw hp_; have p45 : 0 ≤ (x8_3 : Int) := of_decide_eq_true (by assumption); have q45 : (x8_3 : Int) < ((x7_3.length : Int) : Int) := of_decide_eq_true (by assumption); obtain ⟨ce45, hcl45, hM45, hcc45, hfr45⟩ := Kd.N_elem HO_7.out [] (x8_3 : Int) p45 q45; obtain ⟨ua45_0, uc45_0, rfl, ul45_0, ge45_0⟩ := Kd.FK_slice_open hM45; have hx45_0 := hcc45 0 _ rfl; have hf45_0 := hfr45 0; (try simp only [show ((Kd.slice 3 (Kd.int .i64))).sz = 1 from rfl, Nat.mul_one, Nat.add_zero] at hx45_0); (try simp only [show ((Kd.slice 3 (Kd.int .i64))).sz = 1 from rfl, Nat.mul_one, Nat.add_zero] at hf45_0); (try clear hM45); clear hcl45 hcc45 hfr45; replace p45 := eq_true p45; replace q45 := eq_true q45; have HX60 := Aside0.mk (show Kd.N (Kd.slice 3 (Kd.int .i64)) 43 w59 w.heap.size (fun k_ => (w.heap.size ≤ k_) ∧ some k_ ≠ (.slice (some ⟨go40, 0, none⟩) x5_3.length co52 : Value).ownBlock) (.slice (some ⟨go44, 0, none⟩) x7_3.length co57) y330 from (by exact HO_7.out)); obtain ⟨ce60, hcl60, hM60, hcc60, hfr60⟩ := Kd.N_elem HX60.out [] (x8_3 : Int) (of_decide_eq_true (by assumption)) (by have h_ : (x8_3 : Int) < ((x7_3.length : Int) : Int) := of_decide_eq_true (by assumption); first | exact h_ | (have e_ := (Kd.N_reads' HO_7.out).1; omega) | simpa using h_); obtain ⟨ua60_0, uc60_0, rfl, ul60_0, ge60_0⟩ := Kd.FK_slice_open hM60; have HP60 := Kd.N_seg HX60.out (x8_3 : Int) (of_decide_eq_true (by assumption)) (by have h_ : (x8_3 : Int) < ((x7_3.length : Int) : Int) := of_decide_eq_true (by assumption); first | exact h_ | (have e_ := (Kd.N_reads' HO_7.out).1; omega) | simpa using h_) (seg := [.slice A328_0 (rd_L2 x7_3 x9_23).length c328_0]) (j := 0) hcl60 hcc60 (show 1 ≤ 1 from by decide) (x' := rd_L2 x7_3 x9_23) (Kd.FK_slice_mk (Kd.V_reads' (Kd.V_mono (ok' := (fun k_ => ((fun k_ => (w.heap.size ≤ k_) ∧ some k_ ≠ (.slice (some ⟨go40, 0, none⟩) x5_3.length co52 : Value).ownBlock)) k_ ∧ k_ ≠ go44)) (HL328_0.out) (fun k_ hk => ⟨⟨hk.1.1, hk.1.2⟩, fun e_ => (hk.2) (by rw [e_]; rfl)⟩))).2.1 (Kd.V_F (Kd.V_mono (ok' := (fun k_ => ((fun k_ => (w.heap.size ≤ k_) ∧ some k_ ≠ (.slice (some ⟨go40, 0, none⟩) x5_3.length co52 : Value).ownBlock)) k_ ∧ k_ ≠ go44)) (HL328_0.out) (fun k_ hk => ⟨⟨hk.1.1, hk.1.2⟩, fun e_ => (hk.2) (by rw [e_]; rfl)⟩)))) (fun _ hk => hk); have hx60_0 := hcc60 0 _ rfl; (try simp only [show ((Kd.slice 3 (Kd.int .i64))).sz = 1 from rfl, Nat.mul_one, Nat.add_zero] at hx60_0); have hf60_0 := hfr60 0; (try simp only [show ((Kd.slice 3 (Kd.int .i64))).sz = 1 from rfl, Nat.mul_one, Nat.add_zero] at hf60_0); (try clear hM60); clear hcl60 hcc60 hfr60; (try simp only [show ((Kd.slice 3 (Kd.int .i64))).sz = 1 from rfl, Nat.mul_one, Nat.add_zero] at HP60); (try simp only [show ((Kd.slice 3 (Kd.int .i64))).sz = 1 from rfl, Nat.mul_one, Nat.add_zero] at HP60)) | ((with_reducible refine gate_store (t := 43) (p := 101) rfl ?_); refine store_event (t := 43) (p := 101) (v := ?vo_w61) (w1 := (w59.setCell ⟨go44, (x8_3 : Int).toNat, none⟩ (.slice A328_0 (rd_L2 x7_3 x9_23).length c328_0))) ?hg ?ho ?hn ?hr ?_; (case ho => rfl); (case hg => rfl); (case hn => rfl); (case hr => first | (go_simp; done) | (go_simp; rfl)); intro w61 hw; have hg : w59.grownBy w61 (some go44) := (by rw [hw]; exact HP60.2); have hp_ : Kd.N (Kd.slice 3 (Kd.int .i64)) 43 w61 w.heap.size (fun k_ => (w.heap.size ≤ k_) ∧ some k_ ≠ (.slice (some ⟨go40, 0, none⟩) x5_3.length co52 : Value).ownBlock) (.slice (some ⟨go44, 0, none⟩) x7_3.length co57) y331 := (by rw [hw, Ny331.out]; exact HP60.1); clear HP60; have n0_ := Aside0.mk (Kd.N_afterv (v := (.slice (some ⟨go44, 0, none⟩) x7_3.length co57)) (v1 := (.slice (some ⟨go44, 0, none⟩) x7_3.length co57)) (ok := (fun k_ => (w.heap.size ≤ k_))) (by exact HO_5.out) hg (.inl rfl)); have n1_ := Aside0.mk (hp_); have n2_ := Aside0.mk (Kd.V_afterv (v := (.slice (some ⟨go44, 0, none⟩) x7_3.length co57)) (v1 := (.slice (some ⟨go44, 0, none⟩) x7_3.length co57)) (ok := (fun k_ => (w.heap.size ≤ k_) ∧ some k_ ≠ (.slice (some ⟨go40, 0, none⟩) x5_3.length co52 : Value).ownBlock)) (by exact HL324_0.out) hg (.inl rfl)); have n3_ := Aside0.mk (Kd.V_afterv (v := (.slice (some ⟨go44, 0, none⟩) x7_3.length co57)) (v1 := (.slice (some ⟨go44, 0, none⟩) x7_3.length co57)) (ok := (fun k_ => (w.heap.size ≤ k_) ∧ some k_ ≠ (.slice (some ⟨go40, 0, none⟩) x5_3.length co52 : Value).ownBlock)) (by exact HL325_0.out) hg (.inl rfl)); have n4_ := Aside0.mk (Kd.V_afterv (v := (.slice (some ⟨go44, 0, none⟩) x7_3.length co57)) (v1 := (.slice (some ⟨go44, 0, none⟩) x7_3.length co57)) (ok := (fun k_ => (w.heap.size ≤ k_) ∧ some k_ ≠ (.slice (some ⟨go40, 0, none⟩) x5_3.length co52 : Value).ownBlock)) (by exact HL328_0.out) hg (.inl rfl)); have n5_ := Aside0.mk (Kd.V_afterv (v := (.slice (some ⟨go44, 0, none⟩) x7_3.length co57)) (v1 := (.slice (some ⟨go44, 0, none⟩) x7_3.length co57)) (ok := (fun k_ => (w.heap.size ≤ k_) ∧ some k_ ≠ (.slice (some ⟨go40, 0, none⟩) x5_3.length co52 : Value).ownBlock)) (by exact HL329_0.out) hg (.inl rfl)); have n6_ := Aside0.mk ((by rw [hw]; exact below_set (HB.out) GB44.out : Below w.heap.size w w61)); clear HO_5; clear HO_7; clear HL324_0; clear HL325_0; clear HL328_0; clear HL329_0; clear HB; have HO_5 := n0_; have HO_7 := n1_; have HL324_0 := n2_; have HL325_0 := n3_; have HL328_0 := n4_; have HL329_0 := n5_; have HB := n6_; clear n0_ n1_ n2_ n3_ n4_ n5_ n6_; clear hg hw hp_; have p332 : 0 ≤ (x8_3 : Int) := of_decide_eq_true (by assumption); have q332 : x8_3 < (y327.length : Int) := (by have h_ : (x8_3 : Int) < ((x5_3.length : Int) : Int) := of_decide_eq_true (by assumption); first | (have e_ := (Kd.N_reads' HO_5.out).1; omega) | simpa only [Ny326.out, Ny327.out, List.length_set] using h_); have ql332 : ((x8_3 : Int) < ((x5_3.length : Int) : Int)) = True := eq_true (of_decide_eq_true (by assumption)); obtain ⟨ad332, A332_0, c332_0, e332, hx332_0, hl332_0, hi332_0⟩ := at_L2 (Kd.N_reads' HO_5.out).2.2 x8_3 p332 q332; obtain rfl : (⟨go40, 0, none⟩ : Addr) = ad332 := (by injection e332); obtain ⟨ce332, hce332, hMe332, hcc332⟩ := Kd.N_get HO_5.out [] x8_3 p332 (by first | exact q332 | exact of_decide_eq_true (by assumption) | (have e_ := (Kd.N_reads' HO_5.out).1; omega)); obtain ⟨ua332_0, uc332_0, rfl, ul332_0, ge332_0⟩ := Kd.FK_slice_open hMe332; have hv332_0 := hcc332 0 _ rfl; rw [Nat.add_zero, show ((Kd.slice 3 (Kd.int .i64))).sz = 1 from rfl, Nat.mul_one] at hv332_0; replace hv332_0 := Option.some.inj (hv332_0.symm.trans hx332_0); injection hv332_0 with hva_ hvn_ hvc_; rw [hva_] at ge332_0; rw [hvc_] at ul332_0; have HL332_0 := Aside0.mk (show Kd.V (Kd.int .i64) 3 _ w.heap.size _ _ (rd_L2 y327 x8_3) from Kd.V_mk ul332_0 ge332_0); clear hva_ hvn_ hvc_ ge332_0 ul332_0; clear hcc332 hce332; (first | simp only [add_plain] at hx332_0 | simp only [add_at] at hx332_0 | simp only [Addr.add, Nat.zero_add] at hx332_0 | skip); have HR332_0 := Aside0.mk hi332_0; have HC332_0 := Aside0.mk hl332_0; clear hi332_0 hl332_0; replace p332 := eq_true p332; replace q332 := eq_true q332; have p333 : 0 ≤ (x8_3 : Int) := of_decide_eq_true (by assumption); have q333 : x8_3 < ((rd_L2 y327 x8_3).length : Int) := of_decide_eq_true (by assumption); obtain ⟨ad333, e333, hx333_0⟩ := Kd.at_int (by repeat (first | (with_reducible exact HR332_0.out) | (with_reducible refine Kd.C_alloc ?_ _) | (with_reducible refine Kd.C_drewN ?_ _) | (with_reducible refine Kd.C_drew ?_) | exact HR332_0.out)) x8_3 p333 q333; cases e333; replace p333 := eq_true p333; replace q333 := eq_true q333) | ((with_reducible refine gate_callee (f := 62) rfl ?_); refine goesL_ (some 109) rfl rfl Try.func62 (by kernel_rfl) rfl #[.int .i64 (rd (rd_L2 y327 x8_3) x8_3)] rfl (by (try simp only [List.map_toArray, List.map_cons, List.map_nil]); first | done | rfl) ?_; (with_reducible refine (spec_InvG.calls kj23 (rd (rd_L2 y327 x8_3) x8_3) t334 _ A47.out).mono ?_); rintro e w' ⟨rfl, ⟨nd, rfl⟩⟩; refine ⟨_, rfl, ?_⟩; (try (rw [drewN_self w61]; generalize hq_ : World.drewN w61 _ = w61; have n0_ : Aside0 (Kd.V (Kd.int .i64) 3 w61 w.heap.size (fun k_ => (w.heap.size ≤ k_) ∧ some k_ ≠ (.slice (some ⟨go40, 0, none⟩) x5_3.length co52 : Value).ownBlock ∧ some k_ ≠ (.slice (some ⟨go44, 0, none⟩) x7_3.length co57 : Value).ownBlock) (.slice A324_0 (rd_L2 x5_3 x9_23).length c324_0) (rd_L2 x5_3 x9_23)) := ⟨by rw [← hq_]; exact (by exact Kd.V_mono HL324_0.out (fun _ hk => by first | exact ⟨hk.1.1, ⟨hk.1.2, hk.2⟩⟩ | (repeat' (first | exact hk.1 | exact hk.2 | exact hk.1.1 | exact hk.1.2 | exact hk.2.1 | exact hk.2.2 | exact hk.1.1.1 | exact hk.1.1.2 | exact hk.1.2.1 | exact hk.1.2.2 | exact hk.2.1.1 | exact hk.2.1.2 | exact hk.2.2.1 | exact hk.2.2.2 | exact hk.1.1.1.1 | exact hk.1.1.1.2 | exact hk.1.1.2.1 | exact hk.1.1.2.2 | exact hk.1.2.1.1 | exact hk.1.2.1.2 | exact hk.1.2.2.1 | exact hk.1.2.2.2 | exact hk.2.1.1.1 | exact hk.2.1.1.2 | exact hk.2.1.2.1 | exact hk.2.1.2.2 | exact hk.2.2.1.1 | exact hk.2.2.1.2 | exact hk.2.2.2.1 | exact hk.2.2.2.2 | constructor))))⟩; have n1_ : Aside0 (Kd.V (Kd.int .i64) 3 w61 w.heap.size (fun k_ => (w.heap.size ≤ k_) ∧ some k_ ≠ (.slice (some ⟨go40, 0, none⟩) x5_3.length co52 : Value).ownBlock ∧ some k_ ≠ (.slice (some ⟨go44, 0, none⟩) x7_3.length co57 : Value).ownBlock) (.slice A325_0 (rd_L2 x5_3 x8_3).length c325_0) (rd_L2 x5_3 x8_3)) := ⟨by rw [← hq_]; exact (by exact Kd.V_mono HL325_0.out (fun _ hk => by first | exact ⟨hk.1.1, ⟨hk.1.2, hk.2⟩⟩ | (repeat' (first | exact hk.1 | exact hk.2 | exact hk.1.1 | exact hk.1.2 | exact hk.2.1 | exact hk.2.2 | exact hk.1.1.1 | exact hk.1.1.2 | exact hk.1.2.1 | exact hk.1.2.2 | exact hk.2.1.1 | exact hk.2.1.2 | exact hk.2.2.1 | exact hk.2.2.2 | exact hk.1.1.1.1 | exact hk.1.1.1.2 | exact hk.1.1.2.1 | exact hk.1.1.2.2 | exact hk.1.2.1.1 | exact hk.1.2.1.2 | exact hk.1.2.2.1 | exact hk.1.2.2.2 | exact hk.2.1.1.1 | exact hk.2.1.1.2 | exact hk.2.1.2.1 | exact hk.2.1.2.2 | exact hk.2.2.1.1 | exact hk.2.2.1.2 | exact hk.2.2.2.1 | exact hk.2.2.2.2 | constructor))))⟩; have n2_ : Aside0 (Kd.V (Kd.int .i64) 3 w61 w.heap.size (fun k_ => (w.heap.size ≤ k_) ∧ some k_ ≠ (.slice (some ⟨go40, 0, none⟩) x5_3.length co52 : Value).ownBlock ∧ some k_ ≠ (.slice (some ⟨go44, 0, none⟩) x7_3.length co57 : Value).ownBlock) (.slice A328_0 (rd_L2 x7_3 x9_23).length c328_0) (rd_L2 x7_3 x9_23)) := ⟨by rw [← hq_]; exact (by exact Kd.V_mono HL328_0.out (fun _ hk => by first | exact ⟨hk.1.1, ⟨hk.1.2, hk.2⟩⟩ | (repeat' (first | exact hk.1 | exact hk.2 | exact hk.1.1 | exact hk.1.2 | exact hk.2.1 | exact hk.2.2 | exact hk.1.1.1 | exact hk.1.1.2 | exact hk.1.2.1 | exact hk.1.2.2 | exact hk.2.1.1 | exact hk.2.1.2 | exact hk.2.2.1 | exact hk.2.2.2 | exact hk.1.1.1.1 | exact hk.1.1.1.2 | exact hk.1.1.2.1 | exact hk.1.1.2.2 | exact hk.1.2.1.1 | exact hk.1.2.1.2 | exact hk.1.2.2.1 | exact hk.1.2.2.2 | exact hk.2.1.1.1 | exact hk.2.1.1.2 | exact hk.2.1.2.1 | exact hk.2.1.2.2 | exact hk.2.2.1.1 | exact hk.2.2.1.2 | exact hk.2.2.2.1 | exact hk.2.2.2.2 | constructor))))⟩; have n3_ : Aside0 (Kd.V (Kd.int .i64) 3 w61 w.heap.size (fun k_ => (w.heap.size ≤ k_) ∧ some k_ ≠ (.slice (some ⟨go40, 0, none⟩) x5_3.length co52 : Value).ownBlock ∧ some k_ ≠ (.slice (some ⟨go44, 0, none⟩) x7_3.length co57 : Value).ownBlock) (.slice A329_0 (rd_L2 x7_3 x8_3).length c329_0) (rd_L2 x7_3 x8_3)) := ⟨by rw [← hq_]; exact (by exact Kd.V_mono HL329_0.out (fun _ hk => by first | exact ⟨hk.1.1, ⟨hk.1.2, hk.2⟩⟩ | (repeat' (first | exact hk.1 | exact hk.2 | exact hk.1.1 | exact hk.1.2 | exact hk.2.1 | exact hk.2.2 | exact hk.1.1.1 | exact hk.1.1.2 | exact hk.1.2.1 | exact hk.1.2.2 | exact hk.2.1.1 | exact hk.2.1.2 | exact hk.2.2.1 | exact hk.2.2.2 | exact hk.1.1.1.1 | exact hk.1.1.1.2 | exact hk.1.1.2.1 | exact hk.1.1.2.2 | exact hk.1.2.1.1 | exact hk.1.2.1.2 | exact hk.1.2.2.1 | exact hk.1.2.2.2 | exact hk.2.1.1.1 | exact hk.2.1.1.2 | exact hk.2.1.2.1 | exact hk.2.1.2.2 | exact hk.2.2.1.1 | exact hk.2.2.1.2 | exact hk.2.2.2.1 | exact hk.2.2.2.2 | constructor))))⟩; have n4_ : Aside0 (Kd.V (Kd.int .i64) 3 w61 w.heap.size (fun k_ => (w.heap.size ≤ k_) ∧ some k_ ≠ (.slice (some ⟨go40, 0, none⟩) x5_3.length co52 : Value).ownBlock ∧ some k_ ≠ (.slice (some ⟨go44, 0, none⟩) x7_3.length co57 : Value).ownBlock) (.slice (some ad333) (rd_L2 y327 x8_3).length c332_0) (rd_L2 y327 x8_3)) := ⟨by rw [← hq_]; exact (by exact Kd.V_mono HL332_0.out (fun _ hk => by first | exact ⟨hk.1.1, ⟨hk.2, hk.1.2⟩⟩ | (repeat' (first | exact hk.1 | exact hk.2 | exact hk.1.1 | exact hk.1.2 | exact hk.2.1 | exact hk.2.2 | exact hk.1.1.1 | exact hk.1.1.2 | exact hk.1.2.1 | exact hk.1.2.2 | exact hk.2.1.1 | exact hk.2.1.2 | exact hk.2.2.1 | exact hk.2.2.2 | exact hk.1.1.1.1 | exact hk.1.1.1.2 | exact hk.1.1.2.1 | exact hk.1.1.2.2 | exact hk.1.2.1.1 | exact hk.1.2.1.2 | exact hk.1.2.2.1 | exact hk.1.2.2.2 | exact hk.2.1.1.1 | exact hk.2.1.1.2 | exact hk.2.1.2.1 | exact hk.2.1.2.2 | exact hk.2.2.1.1 | exact hk.2.2.1.2 | exact hk.2.2.2.1 | exact hk.2.2.2.2 | constructor))))⟩; have n5_ : Aside0 (Kd.N (Kd.slice 3 (Kd.int .i64)) 43 w61 w.heap.size (fun k_ => (w.heap.size ≤ k_) ∧ some k_ ≠ (.slice (some ⟨go44, 0, none⟩) x7_3.length co57 : Value).ownBlock) (.slice (some ⟨go40, 0, none⟩) x5_3.length co52) y327) := ⟨by rw [← hq_]; exact (by exact HO_5.out)⟩; have n6_ : Aside0 (Kd.N (Kd.slice 3 (Kd.int .i64)) 43 w61 w.heap.size (fun k_ => (w.heap.size ≤ k_) ∧ some k_ ≠ (.slice (some ⟨go40, 0, none⟩) x5_3.length co52 : Value).ownBlock) (.slice (some ⟨go44, 0, none⟩) x7_3.length co57) y331) := ⟨by rw [← hq_]; exact (by exact HO_7.out)⟩; have n7_ : Aside0 (Below w.heap.size w w61) := ⟨by rw [← hq_]; exact (by repeat (first | exact HB.out | apply below_alloc | apply pw_below_drewN | apply below_drew1))⟩; have n8_ : Aside0 (Kd.C (Kd.int .i64) w61 (some ad333) (rd_L2 y327 x8_3).length (rd_L2 y327 x8_3)) := ⟨by rw [← hq_]; exact (by repeat (first | (with_reducible exact HR332_0.out) | (with_reducible refine Kd.C_alloc ?_ _) | (with_reducible refine Kd.C_drewN ?_ _) | (with_reducible refine Kd.C_drew ?_) | exact HR332_0.out))⟩; (try have hx332_0 := (congrArg (fun W_ => World.cell? W_ _) hq_).symm.trans hx332_0); clear HL324_0 HL325_0 HL328_0 HL329_0 HL332_0 HO_5 HO_7 HB HR332_0 hq_; have HL324_0 := n0_; have HL325_0 := n1_; have HL328_0 := n2_; have HL329_0 := n3_; have HL332_0 := n4_; have HO_5 := n5_; have HO_7 := n6_; have HB := n7_; have HR332_0 := n8_; clear n0_ n1_ n2_ n3_ n4_ n5_ n6_ n7_ n8_)); have p335 : 0 ≤ (x8_3 : Int) := of_decide_eq_true (by assumption); have q335 : x8_3 < (y327.length : Int) := (by have h_ : (x8_3 : Int) < ((x5_3.length : Int) : Int) := of_decide_eq_true (by assumption); first | (have e_ := (Kd.N_reads' HO_5.out).1; omega) | simpa only [Ny326.out, Ny327.out, List.length_set] using h_); have ql335 : ((x8_3 : Int) < ((x5_3.length : Int) : Int)) = True := eq_true (of_decide_eq_true (by assumption)); obtain ⟨ad335, A335_0, c335_0, e335, hx335_0, hl335_0, hi335_0⟩ := at_L2 (Kd.N_reads' HO_5.out).2.2 x8_3 p335 q335; obtain rfl : (⟨go40, 0, none⟩ : Addr) = ad335 := (by injection e335); obtain ⟨ce335, hce335, hMe335, hcc335⟩ := Kd.N_get HO_5.out [] x8_3 p335 (by first | exact q335 | exact of_decide_eq_true (by assumption) | (have e_ := (Kd.N_reads' HO_5.out).1; omega)); obtain ⟨ua335_0, uc335_0, rfl, ul335_0, ge335_0⟩ := Kd.FK_slice_open hMe335; have hv335_0 := hcc335 0 _ rfl; rw [Nat.add_zero, show ((Kd.slice 3 (Kd.int .i64))).sz = 1 from rfl, Nat.mul_one] at hv335_0; replace hv335_0 := Option.some.inj (hv335_0.symm.trans hx335_0); injection hv335_0 with hva_ hvn_ hvc_; rw [hva_] at ge335_0; rw [hvc_] at ul335_0; have HL335_0 := Aside0.mk (show Kd.V (Kd.int .i64) 3 _ w.heap.size _ _ (rd_L2 y327 x8_3) from Kd.V_mk ul335_0 ge335_0); clear hva_ hvn_ hvc_ ge335_0 ul335_0; clear hcc335 hce335; (first | simp only [add_plain] at hx335_0 | simp only [add_at] at hx335_0 | simp only [Addr.add, Nat.zero_add] at hx335_0 | skip); have HR335_0 := Aside0.mk hi335_0; have HC335_0 := Aside0.mk hl335_0; clear hi335_0 hl335_0; replace p335 := eq_true p335; replace q335 := eq_true q335; have ea_ := Option.some.inj (hx332_0.symm.trans hx335_0); injection ea_ with ea_ en_ ec_; subst ea_; subst ec_; clear en_) | ((with_reducible refine gate_callee (f := 63) rfl ?_); refine goesL_ (some 117) rfl rfl Try.func63 (by kernel_rfl) rfl #[.slice (some ad333) (rd_L2 y327 x8_3).length c332_0, .int .i64 t334] rfl (by (try simp only [List.map_toArray, List.map_cons, List.map_nil]); first | done | rfl) ?_; (with_reducible refine (spec_l06Times.calls kj23 _ _ (rd_L2 y327 x8_3) t334 t336 _ ?side1 ?side2 A48.out).mono ?_); (case side1 => repeat (first | exact (by repeat (first | (with_reducible exact HR335_0.out) | (with_reducible refine Kd.C_alloc ?_ _) | (with_reducible refine Kd.C_drewN ?_ _) | (with_reducible refine Kd.C_drew ?_) | exact HR335_0.out)) | (with_reducible refine Kd.C_alloc ?_ _) | (with_reducible refine Kd.C_drewN ?_ _) | (with_reducible refine Kd.C_drew ?_))); (case side2 => exact HC335_0.out); rintro e w62 ⟨v337, rfl, ho0, hb⟩; refine ⟨_, rfl, ?_⟩; have n0_ := Aside0.mk (Kd.N_elder' (by exact HO_5.out) (Kd.R_base ho0) hb); have n1_ := Aside0.mk (Kd.N_elder' (by exact HO_7.out) (Kd.R_base ho0) hb); have n2_ := Aside0.mk (Kd.V_elder' (by exact HL324_0.out) (Kd.R_base ho0) hb); have n3_ := Aside0.mk (Kd.V_elder' (by exact HL325_0.out) (Kd.R_base ho0) hb); have n4_ := Aside0.mk (Kd.V_elder' (by exact HL328_0.out) (Kd.R_base ho0) hb); have n5_ := Aside0.mk (Kd.V_elder' (by exact HL329_0.out) (Kd.R_base ho0) hb); have n6_ := Aside0.mk (Kd.V_elder' (by exact HL332_0.out) (Kd.R_base ho0) hb); have n7_ := Aside0.mk (Kd.V_elder' (by exact HL335_0.out) (Kd.R_base ho0) hb); have n8_ := Aside0.mk (Kd.R_lower (Kd.R_newM (M := fun k_ => (w.heap.size ≤ k_)) ho0 (below_size (by repeat (first | exact HB.out | apply below_alloc | apply pw_below_drewN | apply below_drew1))) (fun k_ h_ => h_)) (below_size (by repeat (first | exact HB.out | apply below_alloc | apply pw_below_drewN | apply below_drew1)))); have n9_ := Aside0.mk (Kd.C_below (by repeat (first | (with_reducible exact HR332_0.out) | (with_reducible refine Kd.C_alloc ?_ _) | (with_reducible refine Kd.C_drewN ?_ _) | (with_reducible refine Kd.C_drew ?_) | exact HR332_0.out)) hb); have n10_ := Aside0.mk (Kd.C_below (by repeat (first | (with_reducible exact HR335_0.out) | (with_reducible refine Kd.C_alloc ?_ _) | (with_reducible refine Kd.C_drewN ?_ _) | (with_reducible refine Kd.C_drew ?_) | exact HR335_0.out)) hb); have n11_ := Aside0.mk (below_step (by repeat (first | exact HB.out | apply below_alloc | apply pw_below_drewN | apply below_drew1)) hb); clear HO_5; clear HO_7; clear HL324_0; clear HL325_0; clear HL328_0; clear HL329_0; clear HL332_0; clear HL335_0; clear HR332_0; clear HR335_0; clear HB; have HO_5 := n0_; have HO_7 := n1_; have HL324_0 := n2_; have HL325_0 := n3_; have HL328_0 := n4_; have HL329_0 := n5_; have HL332_0 := n6_; have HL335_0 := n7_; have HO338 := n8_; have HR332_0 := n9_; have HR335_0 := n10_; have HB := n11_; clear n0_ n1_ n2_ n3_ n4_ n5_ n6_ n7_ n8_ n9_ n10_ n11_; (try clear hb); (try clear hk); (try clear ho0); have p49 : 0 ≤ (x8_3 : Int) := of_decide_eq_true (by assumption); have q49 : (x8_3 : Int) < ((x5_3.length : Int) : Int) := of_decide_eq_true (by assumption); obtain ⟨ce49, hcl49, hM49, hcc49, hfr49⟩ := Kd.N_elem HO_5.out [] (x8_3 : Int) p49 q49; obtain ⟨ua49_0, uc49_0, rfl, ul49_0, ge49_0⟩ := Kd.FK_slice_open hM49; have hx49_0 := hcc49 0 _ rfl; have hf49_0 := hfr49 0; (try simp only [show ((Kd.slice 3 (Kd.int .i64))).sz = 1 from rfl, Nat.mul_one, Nat.add_zero] at hx49_0); (try simp only [show ((Kd.slice 3 (Kd.int .i64))).sz = 1 from rfl, Nat.mul_one, Nat.add_zero] at hf49_0); (try clear hM49); clear hcl49 hcc49 hfr49; replace p49 := eq_true p49; replace q49 := eq_true q49; obtain ⟨Ao65, co65, eo65⟩ := Kd.R_slice HO338.out; subst eo65; have n_ := Aside0.mk (Kd.N_mono (ok' := (fun k_ => (w.heap.size ≤ k_) ∧ some k_ ≠ (.slice (some ⟨go44, 0, none⟩) x7_3.length co57 : Value).ownBlock ∧ some k_ ≠ (.slice Ao65 t336.length co65 : Value).ownBlock)) HO_5.out (fun k_ hk => ⟨hk.1.1, ⟨hk.1.2, hk.2⟩⟩)); clear HO_5; have HO_5 := n_; clear n_; have HX63 := Aside0.mk (show Kd.N (Kd.slice 3 (Kd.int .i64)) 43 w62 w.heap.size (fun k_ => (w.heap.size ≤ k_) ∧ some k_ ≠ (.slice (some ⟨go44, 0, none⟩) x7_3.length co57 : Value).ownBlock) (.slice (some ⟨go40, 0, none⟩) x5_3.length co52) y327 from (by exact Kd.N_mono HO_5.out (fun _ hk => ⟨hk.1, hk.2.1⟩))); obtain ⟨ce63, hcl63, hM63, hcc63, hfr63⟩ := Kd.N_elem HX63.out [] (x8_3 : Int) (of_decide_eq_true (by assumption)) (by have h_ : (x8_3 : Int) < ((x5_3.length : Int) : Int) := of_decide_eq_true (by assumption); first | exact h_ | (have e_ := (Kd.N_reads' HO_5.out).1; omega) | simpa using h_); obtain ⟨ua63_0, uc63_0, rfl, ul63_0, ge63_0⟩ := Kd.FK_slice_open hM63; have HP63 := Kd.N_seg HX63.out (x8_3 : Int) (of_decide_eq_true (by assumption)) (by have h_ : (x8_3 : Int) < ((x5_3.length : Int) : Int) := of_decide_eq_true (by assumption); first | exact h_ | (have e_ := (Kd.N_reads' HO_5.out).1; omega) | simpa using h_) (seg := [.slice Ao65 t336.length co65]) (j := 0) hcl63 hcc63 (show 1 ≤ 1 from by decide) (x' := t336) (Kd.FK_slice_mk (Kd.R_reads' (Kd.R_mono (ok' := (fun k_ => ((fun k_ => (w.heap.size ≤ k_) ∧ some k_ ≠ (.slice (some ⟨go44, 0, none⟩) x7_3.length co57 : Value).ownBlock)) k_ ∧ k_ ≠ go40)) (Kd.R_apart' (Kd.R_apart' (HO338.out) (Kd.N_typed HO_7.out) (by decide)) (Kd.N_typed HO_5.out) (by decide)) (fun k_ hk => ⟨⟨hk.1.1.1, hk.1.2⟩, fun e_ => (hk.2) (by rw [e_]; rfl)⟩))).2.1 (Kd.R_F (Kd.R_mono (ok' := (fun k_ => ((fun k_ => (w.heap.size ≤ k_) ∧ some k_ ≠ (.slice (some ⟨go44, 0, none⟩) x7_3.length co57 : Value).ownBlock)) k_ ∧ k_ ≠ go40)) (Kd.R_apart' (Kd.R_apart' (HO338.out) (Kd.N_typed HO_7.out) (by decide)) (Kd.N_typed HO_5.out) (by decide)) (fun k_ hk => ⟨⟨hk.1.1.1, hk.1.2⟩, fun e_ => (hk.2) (by rw [e_]; rfl)⟩)))) (fun _ hk => hk); have hx63_0 := hcc63 0 _ rfl; (try simp only [show ((Kd.slice 3 (Kd.int .i64))).sz = 1 from rfl, Nat.mul_one, Nat.add_zero] at hx63_0); have hf63_0 := hfr63 0; (try simp only [show ((Kd.slice 3 (Kd.int .i64))).sz = 1 from rfl, Nat.mul_one, Nat.add_zero] at hf63_0); (try clear hM63); clear hcl63 hcc63 hfr63; (try simp only [show ((Kd.slice 3 (Kd.int .i64))).sz = 1 from rfl, Nat.mul_one, Nat.add_zero] at HP63); (try simp only [show ((Kd.slice 3 (Kd.int .i64))).sz = 1 from rfl, Nat.mul_one, Nat.add_zero] at HP63)) | ((with_reducible refine gate_store (t := 43) (p := 118) rfl ?_); refine store_event (t := 43) (p := 118) (v := ?vo_w64) (w1 := (w62.setCell ⟨go40, (x8_3 : Int).toNat, none⟩ (.slice Ao65 t336.length co65))) ?hg ?ho ?hn ?hr ?_; (case ho => rfl); (case hg => rfl); (case hn => rfl); (case hr => first | (go_simp; done) | (go_simp; rfl)); intro w64 hw; have hg : w62.grownBy w64 (some go40) := (by rw [hw]; exact HP63.2); have hp_ : Kd.N (Kd.slice 3 (Kd.int .i64)) 43 w64 w.heap.size (fun k_ => (w.heap.size ≤ k_) ∧ some k_ ≠ (.slice (some ⟨go44, 0, none⟩) x7_3.length co57 : Value).ownBlock) (.slice (some ⟨go40, 0, none⟩) x5_3.length co52) y339 := (by rw [hw, Ny339.out]; exact HP63.1); clear HP63; have n0_ := Aside0.mk (hp_); have n1_ := Aside0.mk (Kd.N_afterv (v := (.slice (some ⟨go40, 0, none⟩) x5_3.length co52)) (v1 := (.slice (some ⟨go40, 0, none⟩) x5_3.length co52)) (ok := (fun k_ => (w.heap.size ≤ k_) ∧ some k_ ≠ (.slice Ao65 t336.length co65 : Value).ownBlock)) (by exact Kd.N_mono HO_7.out (fun _ hk => ⟨⟨hk.1.1, hk.2⟩, hk.1.2⟩)) hg (.inl rfl)); have n2_ := Aside0.mk (Kd.V_afterv (v := (.slice (some ⟨go40, 0, none⟩) x5_3.length co52)) (v1 := (.slice (some ⟨go40, 0, none⟩) x5_3.length co52)) (ok := (fun k_ => (w.heap.size ≤ k_) ∧ some k_ ≠ (.slice (some ⟨go44, 0, none⟩) x7_3.length co57 : Value).ownBlock ∧ some k_ ≠ (.slice Ao65 t336.length co65 : Value).ownBlock)) (by exact Kd.V_mono HL324_0.out (fun _ hk => by first | exact ⟨⟨hk.1.1.1, ⟨hk.1.2, hk.2⟩⟩, hk.1.1.2⟩ | (repeat' (first | exact hk.1 | exact hk.2 | exact hk.1.1 | exact hk.1.2 | exact hk.2.1 | exact hk.2.2 | exact hk.1.1.1 | exact hk.1.1.2 | exact hk.1.2.1 | exact hk.1.2.2 | exact hk.2.1.1 | exact hk.2.1.2 | exact hk.2.2.1 | exact hk.2.2.2 | exact hk.1.1.1.1 | exact hk.1.1.1.2 | exact hk.1.1.2.1 | exact hk.1.1.2.2 | exact hk.1.2.1.1 | exact hk.1.2.1.2 | exact hk.1.2.2.1 | exact hk.1.2.2.2 | exact hk.2.1.1.1 | exact hk.2.1.1.2 | exact hk.2.1.2.1 | exact hk.2.1.2.2 | exact hk.2.2.1.1 | exact hk.2.2.1.2 | exact hk.2.2.2.1 | exact hk.2.2.2.2 | constructor)))) hg (.inl rfl)); have n3_ := Aside0.mk (Kd.V_afterv (v := (.slice (some ⟨go40, 0, none⟩) x5_3.length co52)) (v1 := (.slice (some ⟨go40, 0, none⟩) x5_3.length co52)) (ok := (fun k_ => (w.heap.size ≤ k_) ∧ some k_ ≠ (.slice (some ⟨go44, 0, none⟩) x7_3.length co57 : Value).ownBlock ∧ some k_ ≠ (.slice Ao65 t336.length co65 : Value).ownBlock)) (by exact Kd.V_mono HL325_0.out (fun _ hk => by first | exact ⟨⟨hk.1.1.1, ⟨hk.1.2, hk.2⟩⟩, hk.1.1.2⟩ | (repeat' (first | exact hk.1 | exact hk.2 | exact hk.1.1 | exact hk.1.2 | exact hk.2.1 | exact hk.2.2 | exact hk.1.1.1 | exact hk.1.1.2 | exact hk.1.2.1 | exact hk.1.2.2 | exact hk.2.1.1 | exact hk.2.1.2 | exact hk.2.2.1 | exact hk.2.2.2 | exact hk.1.1.1.1 | exact hk.1.1.1.2 | exact hk.1.1.2.1 | exact hk.1.1.2.2 | exact hk.1.2.1.1 | exact hk.1.2.1.2 | exact hk.1.2.2.1 | exact hk.1.2.2.2 | exact hk.2.1.1.1 | exact hk.2.1.1.2 | exact hk.2.1.2.1 | exact hk.2.1.2.2 | exact hk.2.2.1.1 | exact hk.2.2.1.2 | exact hk.2.2.2.1 | exact hk.2.2.2.2 | constructor)))) hg (.inl rfl)); have n4_ := Aside0.mk (Kd.V_afterv (v := (.slice (some ⟨go40, 0, none⟩) x5_3.length co52)) (v1 := (.slice (some ⟨go40, 0, none⟩) x5_3.length co52)) (ok := (fun k_ => (w.heap.size ≤ k_) ∧ some k_ ≠ (.slice (some ⟨go44, 0, none⟩) x7_3.length co57 : Value).ownBlock ∧ some k_ ≠ (.slice Ao65 t336.length co65 : Value).ownBlock)) (by exact Kd.V_mono HL328_0.out (fun _ hk => by first | exact ⟨⟨hk.1.1.1, ⟨hk.1.2, hk.2⟩⟩, hk.1.1.2⟩ | (repeat' (first | exact hk.1 | exact hk.2 | exact hk.1.1 | exact hk.1.2 | exact hk.2.1 | exact hk.2.2 | exact hk.1.1.1 | exact hk.1.1.2 | exact hk.1.2.1 | exact hk.1.2.2 | exact hk.2.1.1 | exact hk.2.1.2 | exact hk.2.2.1 | exact hk.2.2.2 | exact hk.1.1.1.1 | exact hk.1.1.1.2 | exact hk.1.1.2.1 | exact hk.1.1.2.2 | exact hk.1.2.1.1 | exact hk.1.2.1.2 | exact hk.1.2.2.1 | exact hk.1.2.2.2 | exact hk.2.1.1.1 | exact hk.2.1.1.2 | exact hk.2.1.2.1 | exact hk.2.1.2.2 | exact hk.2.2.1.1 | exact hk.2.2.1.2 | exact hk.2.2.2.1 | exact hk.2.2.2.2 | constructor)))) hg (.inl rfl)); have n5_ := Aside0.mk (Kd.V_afterv (v := (.slice (some ⟨go40, 0, none⟩) x5_3.length co52)) (v1 := (.slice (some ⟨go40, 0, none⟩) x5_3.length co52)) (ok := (fun k_ => (w.heap.size ≤ k_) ∧ some k_ ≠ (.slice (some ⟨go44, 0, none⟩) x7_3.length co57 : Value).ownBlock ∧ some k_ ≠ (.slice Ao65 t336.length co65 : Value).ownBlock)) (by exact Kd.V_mono HL329_0.out (fun _ hk => by first | exact ⟨⟨hk.1.1.1, ⟨hk.1.2, hk.2⟩⟩, hk.1.1.2⟩ | (repeat' (first | exact hk.1 | exact hk.2 | exact hk.1.1 | exact hk.1.2 | exact hk.2.1 | exact hk.2.2 | exact hk.1.1.1 | exact hk.1.1.2 | exact hk.1.2.1 | exact hk.1.2.2 | exact hk.2.1.1 | exact hk.2.1.2 | exact hk.2.2.1 | exact hk.2.2.2 | exact hk.1.1.1.1 | exact hk.1.1.1.2 | exact hk.1.1.2.1 | exact hk.1.1.2.2 | exact hk.1.2.1.1 | exact hk.1.2.1.2 | exact hk.1.2.2.1 | exact hk.1.2.2.2 | exact hk.2.1.1.1 | exact hk.2.1.1.2 | exact hk.2.1.2.1 | exact hk.2.1.2.2 | exact hk.2.2.1.1 | exact hk.2.2.1.2 | exact hk.2.2.2.1 | exact hk.2.2.2.2 | constructor)))) hg (.inl rfl)); have n6_ := Aside0.mk (Kd.V_afterv (v := (.slice (some ⟨go40, 0, none⟩) x5_3.length co52)) (v1 := (.slice (some ⟨go40, 0, none⟩) x5_3.length co52)) (ok := (fun k_ => (w.heap.size ≤ k_) ∧ some k_ ≠ (.slice (some ⟨go44, 0, none⟩) x7_3.length co57 : Value).ownBlock ∧ some k_ ≠ (.slice Ao65 t336.length co65 : Value).ownBlock)) (by exact Kd.V_mono HL332_0.out (fun _ hk => by first | exact ⟨⟨hk.1.1.1, ⟨hk.1.1.2, hk.2⟩⟩, hk.1.2⟩ | (repeat' (first | exact hk.1 | exact hk.2 | exact hk.1.1 | exact hk.1.2 | exact hk.2.1 | exact hk.2.2 | exact hk.1.1.1 | exact hk.1.1.2 | exact hk.1.2.1 | exact hk.1.2.2 | exact hk.2.1.1 | exact hk.2.1.2 | exact hk.2.2.1 | exact hk.2.2.2 | exact hk.1.1.1.1 | exact hk.1.1.1.2 | exact hk.1.1.2.1 | exact hk.1.1.2.2 | exact hk.1.2.1.1 | exact hk.1.2.1.2 | exact hk.1.2.2.1 | exact hk.1.2.2.2 | exact hk.2.1.1.1 | exact hk.2.1.1.2 | exact hk.2.1.2.1 | exact hk.2.1.2.2 | exact hk.2.2.1.1 | exact hk.2.2.1.2 | exact hk.2.2.2.1 | exact hk.2.2.2.2 | constructor)))) hg (.inl rfl)); have n7_ := Aside0.mk (Kd.V_afterv (v := (.slice (some ⟨go40, 0, none⟩) x5_3.length co52)) (v1 := (.slice (some ⟨go40, 0, none⟩) x5_3.length co52)) (ok := (fun k_ => (w.heap.size ≤ k_) ∧ some k_ ≠ (.slice (some ⟨go44, 0, none⟩) x7_3.length co57 : Value).ownBlock ∧ some k_ ≠ (.slice Ao65 t336.length co65 : Value).ownBlock)) (by exact Kd.V_mono HL335_0.out (fun _ hk => by first | exact ⟨⟨hk.1.1.1, ⟨hk.1.1.2, hk.2⟩⟩, hk.1.2⟩ | (repeat' (first | exact hk.1 | exact hk.2 | exact hk.1.1 | exact hk.1.2 | exact hk.2.1 | exact hk.2.2 | exact hk.1.1.1 | exact hk.1.1.2 | exact hk.1.2.1 | exact hk.1.2.2 | exact hk.2.1.1 | exact hk.2.1.2 | exact hk.2.2.1 | exact hk.2.2.2 | exact hk.1.1.1.1 | exact hk.1.1.1.2 | exact hk.1.1.2.1 | exact hk.1.1.2.2 | exact hk.1.2.1.1 | exact hk.1.2.1.2 | exact hk.1.2.2.1 | exact hk.1.2.2.2 | exact hk.2.1.1.1 | exact hk.2.1.1.2 | exact hk.2.1.2.1 | exact hk.2.1.2.2 | exact hk.2.2.1.1 | exact hk.2.2.1.2 | exact hk.2.2.2.1 | exact hk.2.2.2.2 | constructor)))) hg (.inl rfl)); have n8_ := Aside0.mk ((by rw [hw]; exact below_set (HB.out) GB40.out : Below w.heap.size w w64)); clear HO_5; clear HO_7; clear HL324_0; clear HL325_0; clear HL328_0; clear HL329_0; clear HL332_0; clear HL335_0; clear HB; clear HO338; have HO_5 := n0_; have HO_7 := n1_; have HL324_0 := n2_; have HL325_0 := n3_; have HL328_0 := n4_; have HL329_0 := n5_; have HL332_0 := n6_; have HL335_0 := n7_; have HB := n8_; clear n0_ n1_ n2_ n3_ n4_ n5_ n6_ n7_ n8_; clear hg hw hp_; have p340 : 0 ≤ (x8_3 : Int) := of_decide_eq_true (by assumption); have q340 : x8_3 < (y331.length : Int) := (by have h_ : (x8_3 : Int) < ((x7_3.length : Int) : Int) := of_decide_eq_true (by assumption); first | (have e_ := (Kd.N_reads' HO_7.out).1; omega) | simpa only [Ny330.out, Ny331.out, List.length_set] using h_); have ql340 : ((x8_3 : Int) < ((x7_3.length : Int) : Int)) = True := eq_true (of_decide_eq_true (by assumption)); obtain ⟨ad340, A340_0, c340_0, e340, hx340_0, hl340_0, hi340_0⟩ := at_L2 (Kd.N_reads' HO_7.out).2.2 x8_3 p340 q340; obtain rfl : (⟨go44, 0, none⟩ : Addr) = ad340 := (by injection e340); obtain ⟨ce340, hce340, hMe340, hcc340⟩ := Kd.N_get HO_7.out [] x8_3 p340 (by first | exact q340 | exact of_decide_eq_true (by assumption) | (have e_ := (Kd.N_reads' HO_7.out).1; omega)); obtain ⟨ua340_0, uc340_0, rfl, ul340_0, ge340_0⟩ := Kd.FK_slice_open hMe340; have hv340_0 := hcc340 0 _ rfl; rw [Nat.add_zero, show ((Kd.slice 3 (Kd.int .i64))).sz = 1 from rfl, Nat.mul_one] at hv340_0; replace hv340_0 := Option.some.inj (hv340_0.symm.trans hx340_0); injection hv340_0 with hva_ hvn_ hvc_; rw [hva_] at ge340_0; rw [hvc_] at ul340_0; have HL340_0 := Aside0.mk (show Kd.V (Kd.int .i64) 3 _ w.heap.size _ _ (rd_L2 y331 x8_3) from Kd.V_mk ul340_0 ge340_0); clear hva_ hvn_ hvc_ ge340_0 ul340_0; clear hcc340 hce340; (first | simp only [add_plain] at hx340_0 | simp only [add_at] at hx340_0 | simp only [Addr.add, Nat.zero_add] at hx340_0 | skip); have HR340_0 := Aside0.mk hi340_0; have HC340_0 := Aside0.mk hl340_0; clear hi340_0 hl340_0; replace p340 := eq_true p340; replace q340 := eq_true q340) | ((with_reducible refine gate_callee (f := 63) rfl ?_); refine goesL_ (some 126) rfl rfl Try.func63 (by kernel_rfl) rfl #[.slice A340_0 (rd_L2 y331 x8_3).length c340_0, .int .i64 t334] rfl (by (try simp only [List.map_toArray, List.map_cons, List.map_nil]); first | done | rfl) ?_; (with_reducible refine (spec_l06Times.calls kj23 _ _ (rd_L2 y331 x8_3) t334 t341 _ ?side1 ?side2 A50.out).mono ?_); (case side1 => repeat (first | exact (by repeat (first | (with_reducible exact HR340_0.out) | (with_reducible refine Kd.C_alloc ?_ _) | (with_reducible refine Kd.C_drewN ?_ _) | (with_reducible refine Kd.C_drew ?_) | exact HR340_0.out)) | (with_reducible refine Kd.C_alloc ?_ _) | (with_reducible refine Kd.C_drewN ?_ _) | (with_reducible refine Kd.C_drew ?_))); (case side2 => exact HC340_0.out); rintro e w66 ⟨v342, rfl, ho0, hb⟩; refine ⟨_, rfl, ?_⟩; have n0_ := Aside0.mk (Kd.N_elder' (by exact HO_5.out) (Kd.R_base ho0) hb); have n1_ := Aside0.mk (Kd.N_elder' (by exact HO_7.out) (Kd.R_base ho0) hb); have n2_ := Aside0.mk (Kd.V_elder' (by exact HL324_0.out) (Kd.R_base ho0) hb); have n3_ := Aside0.mk (Kd.V_elder' (by exact HL325_0.out) (Kd.R_base ho0) hb); have n4_ := Aside0.mk (Kd.V_elder' (by exact HL328_0.out) (Kd.R_base ho0) hb); have n5_ := Aside0.mk (Kd.V_elder' (by exact HL329_0.out) (Kd.R_base ho0) hb); have n6_ := Aside0.mk (Kd.V_elder' (by exact HL332_0.out) (Kd.R_base ho0) hb); have n7_ := Aside0.mk (Kd.V_elder' (by exact HL335_0.out) (Kd.R_base ho0) hb); have n8_ := Aside0.mk (Kd.V_elder' (by exact HL340_0.out) (Kd.R_base ho0) hb); have n9_ := Aside0.mk (Kd.R_lower (Kd.R_newM (M := fun k_ => (w.heap.size ≤ k_)) ho0 (below_size (by repeat (first | exact HB.out | apply below_alloc | apply pw_below_drewN | apply below_drew1))) (fun k_ h_ => h_)) (below_size (by repeat (first | exact HB.out | apply below_alloc | apply pw_below_drewN | apply below_drew1)))); have n10_ := Aside0.mk (Kd.C_below (by repeat (first | (with_reducible exact HR340_0.out) | (with_reducible refine Kd.C_alloc ?_ _) | (with_reducible refine Kd.C_drewN ?_ _) | (with_reducible refine Kd.C_drew ?_) | exact HR340_0.out)) hb); have n11_ := Aside0.mk (below_step (by repeat (first | exact HB.out | apply below_alloc | apply pw_below_drewN | apply below_drew1)) hb); clear HO_5; clear HO_7; clear HL324_0; clear HL325_0; clear HL328_0; clear HL329_0; clear HL332_0; clear HL335_0; clear HL340_0; clear HR340_0; clear HB; have HO_5 := n0_; have HO_7 := n1_; have HL324_0 := n2_; have HL325_0 := n3_; have HL328_0 := n4_; have HL329_0 := n5_; have HL332_0 := n6_; have HL335_0 := n7_; have HL340_0 := n8_; have HO343 := n9_; have HR340_0 := n10_; have HB := n11_; clear n0_ n1_ n2_ n3_ n4_ n5_ n6_ n7_ n8_ n9_ n10_ n11_; (try clear hb); (try clear hk); (try clear ho0); have p51 : 0 ≤ (x8_3 : Int) := of_decide_eq_true (by assumption); have q51 : (x8_3 : Int) < ((x7_3.length : Int) : Int) := of_decide_eq_true (by assumption); obtain ⟨ce51, hcl51, hM51, hcc51, hfr51⟩ := Kd.N_elem HO_7.out [] (x8_3 : Int) p51 q51; obtain ⟨ua51_0, uc51_0, rfl, ul51_0, ge51_0⟩ := Kd.FK_slice_open hM51; have hx51_0 := hcc51 0 _ rfl; have hf51_0 := hfr51 0; (try simp only [show ((Kd.slice 3 (Kd.int .i64))).sz = 1 from rfl, Nat.mul_one, Nat.add_zero] at hx51_0); (try simp only [show ((Kd.slice 3 (Kd.int .i64))).sz = 1 from rfl, Nat.mul_one, Nat.add_zero] at hf51_0); (try clear hM51); clear hcl51 hcc51 hfr51; replace p51 := eq_true p51; replace q51 := eq_true q51; obtain ⟨Ao69, co69, eo69⟩ := Kd.R_slice HO343.out; subst eo69; have n_ := Aside0.mk (Kd.N_mono (ok' := (fun k_ => (w.heap.size ≤ k_) ∧ some k_ ≠ (.slice (some ⟨go40, 0, none⟩) x5_3.length co52 : Value).ownBlock ∧ some k_ ≠ (.slice Ao69 t341.length co69 : Value).ownBlock)) HO_7.out (fun k_ hk => ⟨hk.1.1.1, ⟨hk.1.2, hk.2⟩⟩)); clear HO_7; have HO_7 := n_; clear n_; have HX67 := Aside0.mk (show Kd.N (Kd.slice 3 (Kd.int .i64)) 43 w66 w.heap.size (fun k_ => (w.heap.size ≤ k_) ∧ some k_ ≠ (.slice (some ⟨go40, 0, none⟩) x5_3.length co52 : Value).ownBlock) (.slice (some ⟨go44, 0, none⟩) x7_3.length co57) y331 from (by exact Kd.N_mono HO_7.out (fun _ hk => ⟨hk.1, hk.2.1⟩))); obtain ⟨ce67, hcl67, hM67, hcc67, hfr67⟩ := Kd.N_elem HX67.out [] (x8_3 : Int) (of_decide_eq_true (by assumption)) (by have h_ : (x8_3 : Int) < ((x7_3.length : Int) : Int) := of_decide_eq_true (by assumption); first | exact h_ | (have e_ := (Kd.N_reads' HO_7.out).1; omega) | simpa using h_); obtain ⟨ua67_0, uc67_0, rfl, ul67_0, ge67_0⟩ := Kd.FK_slice_open hM67; have HP67 := Kd.N_seg HX67.out (x8_3 : Int) (of_decide_eq_true (by assumption)) (by have h_ : (x8_3 : Int) < ((x7_3.length : Int) : Int) := of_decide_eq_true (by assumption); first | exact h_ | (have e_ := (Kd.N_reads' HO_7.out).1; omega) | simpa using h_) (seg := [.slice Ao69 t341.length co69]) (j := 0) hcl67 hcc67 (show 1 ≤ 1 from by decide) (x' := t341) (Kd.FK_slice_mk (Kd.R_reads' (Kd.R_mono (ok' := (fun k_ => ((fun k_ => (w.heap.size ≤ k_) ∧ some k_ ≠ (.slice (some ⟨go40, 0, none⟩) x5_3.length co52 : Value).ownBlock)) k_ ∧ k_ ≠ go44)) (Kd.R_apart' (Kd.R_apart' (HO343.out) (Kd.N_typed HO_5.out) (by decide)) (Kd.N_typed HO_7.out) (by decide)) (fun k_ hk => ⟨⟨hk.1.1.1, hk.1.2⟩, fun e_ => (hk.2) (by rw [e_]; rfl)⟩))).2.1 (Kd.R_F (Kd.R_mono (ok' := (fun k_ => ((fun k_ => (w.heap.size ≤ k_) ∧ some k_ ≠ (.slice (some ⟨go40, 0, none⟩) x5_3.length co52 : Value).ownBlock)) k_ ∧ k_ ≠ go44)) (Kd.R_apart' (Kd.R_apart' (HO343.out) (Kd.N_typed HO_5.out) (by decide)) (Kd.N_typed HO_7.out) (by decide)) (fun k_ hk => ⟨⟨hk.1.1.1, hk.1.2⟩, fun e_ => (hk.2) (by rw [e_]; rfl)⟩)))) (fun _ hk => hk); have hx67_0 := hcc67 0 _ rfl; (try simp only [show ((Kd.slice 3 (Kd.int .i64))).sz = 1 from rfl, Nat.mul_one, Nat.add_zero] at hx67_0); have hf67_0 := hfr67 0; (try simp only [show ((Kd.slice 3 (Kd.int .i64))).sz = 1 from rfl, Nat.mul_one, Nat.add_zero] at hf67_0); (try clear hM67); clear hcl67 hcc67 hfr67; (try simp only [show ((Kd.slice 3 (Kd.int .i64))).sz = 1 from rfl, Nat.mul_one, Nat.add_zero] at HP67); (try simp only [show ((Kd.slice 3 (Kd.int .i64))).sz = 1 from rfl, Nat.mul_one, Nat.add_zero] at HP67)) | ((with_reducible refine gate_store (t := 43) (p := 127) rfl ?_); refine store_event (t := 43) (p := 127) (v := ?vo_w68) (w1 := (w66.setCell ⟨go44, (x8_3 : Int).toNat, none⟩ (.slice Ao69 t341.length co69))) ?hg ?ho ?hn ?hr ?_; (case ho => rfl); (case hg => rfl); (case hn => rfl); (case hr => first | (go_simp; done) | (go_simp; rfl)); intro w68 hw; have hg : w66.grownBy w68 (some go44) := (by rw [hw]; exact HP67.2); have hp_ : Kd.N (Kd.slice 3 (Kd.int .i64)) 43 w68 w.heap.size (fun k_ => (w.heap.size ≤ k_) ∧ some k_ ≠ (.slice (some ⟨go40, 0, none⟩) x5_3.length co52 : Value).ownBlock) (.slice (some ⟨go44, 0, none⟩) x7_3.length co57) y344 := (by rw [hw, Ny344.out]; exact HP67.1); clear HP67; have n0_ := Aside0.mk (Kd.N_afterv (v := (.slice (some ⟨go44, 0, none⟩) x7_3.length co57)) (v1 := (.slice (some ⟨go44, 0, none⟩) x7_3.length co57)) (ok := (fun k_ => (w.heap.size ≤ k_) ∧ some k_ ≠ (.slice Ao69 t341.length co69 : Value).ownBlock)) (by exact Kd.N_mono HO_5.out (fun _ hk => ⟨⟨hk.1.1, hk.2⟩, hk.1.2⟩)) hg (.inl rfl)); have n1_ := Aside0.mk (hp_); have n2_ := Aside0.mk (Kd.V_afterv (v := (.slice (some ⟨go44, 0, none⟩) x7_3.length co57)) (v1 := (.slice (some ⟨go44, 0, none⟩) x7_3.length co57)) (ok := (fun k_ => (w.heap.size ≤ k_) ∧ some k_ ≠ (.slice (some ⟨go40, 0, none⟩) x5_3.length co52 : Value).ownBlock ∧ some k_ ≠ (.slice Ao69 t341.length co69 : Value).ownBlock)) (by exact Kd.V_mono HL324_0.out (fun _ hk => by first | exact ⟨⟨hk.1.1.1, ⟨hk.1.2, hk.2⟩⟩, hk.1.1.2.1⟩ | (repeat' (first | exact hk.1 | exact hk.2 | exact hk.1.1 | exact hk.1.2 | exact hk.2.1 | exact hk.2.2 | exact hk.1.1.1 | exact hk.1.1.2 | exact hk.1.2.1 | exact hk.1.2.2 | exact hk.2.1.1 | exact hk.2.1.2 | exact hk.2.2.1 | exact hk.2.2.2 | exact hk.1.1.1.1 | exact hk.1.1.1.2 | exact hk.1.1.2.1 | exact hk.1.1.2.2 | exact hk.1.2.1.1 | exact hk.1.2.1.2 | exact hk.1.2.2.1 | exact hk.1.2.2.2 | exact hk.2.1.1.1 | exact hk.2.1.1.2 | exact hk.2.1.2.1 | exact hk.2.1.2.2 | exact hk.2.2.1.1 | exact hk.2.2.1.2 | exact hk.2.2.2.1 | exact hk.2.2.2.2 | constructor)))) hg (.inl rfl)); have n3_ := Aside0.mk (Kd.V_afterv (v := (.slice (some ⟨go44, 0, none⟩) x7_3.length co57)) (v1 := (.slice (some ⟨go44, 0, none⟩) x7_3.length co57)) (ok := (fun k_ => (w.heap.size ≤ k_) ∧ some k_ ≠ (.slice (some ⟨go40, 0, none⟩) x5_3.length co52 : Value).ownBlock ∧ some k_ ≠ (.slice Ao69 t341.length co69 : Value).ownBlock)) (by exact Kd.V_mono HL325_0.out (fun _ hk => by first | exact ⟨⟨hk.1.1.1, ⟨hk.1.2, hk.2⟩⟩, hk.1.1.2.1⟩ | (repeat' (first | exact hk.1 | exact hk.2 | exact hk.1.1 | exact hk.1.2 | exact hk.2.1 | exact hk.2.2 | exact hk.1.1.1 | exact hk.1.1.2 | exact hk.1.2.1 | exact hk.1.2.2 | exact hk.2.1.1 | exact hk.2.1.2 | exact hk.2.2.1 | exact hk.2.2.2 | exact hk.1.1.1.1 | exact hk.1.1.1.2 | exact hk.1.1.2.1 | exact hk.1.1.2.2 | exact hk.1.2.1.1 | exact hk.1.2.1.2 | exact hk.1.2.2.1 | exact hk.1.2.2.2 | exact hk.2.1.1.1 | exact hk.2.1.1.2 | exact hk.2.1.2.1 | exact hk.2.1.2.2 | exact hk.2.2.1.1 | exact hk.2.2.1.2 | exact hk.2.2.2.1 | exact hk.2.2.2.2 | constructor)))) hg (.inl rfl)); have n4_ := Aside0.mk (Kd.V_afterv (v := (.slice (some ⟨go44, 0, none⟩) x7_3.length co57)) (v1 := (.slice (some ⟨go44, 0, none⟩) x7_3.length co57)) (ok := (fun k_ => (w.heap.size ≤ k_) ∧ some k_ ≠ (.slice (some ⟨go40, 0, none⟩) x5_3.length co52 : Value).ownBlock ∧ some k_ ≠ (.slice Ao69 t341.length co69 : Value).ownBlock)) (by exact Kd.V_mono HL328_0.out (fun _ hk => by first | exact ⟨⟨hk.1.1.1, ⟨hk.1.2, hk.2⟩⟩, hk.1.1.2.1⟩ | (repeat' (first | exact hk.1 | exact hk.2 | exact hk.1.1 | exact hk.1.2 | exact hk.2.1 | exact hk.2.2 | exact hk.1.1.1 | exact hk.1.1.2 | exact hk.1.2.1 | exact hk.1.2.2 | exact hk.2.1.1 | exact hk.2.1.2 | exact hk.2.2.1 | exact hk.2.2.2 | exact hk.1.1.1.1 | exact hk.1.1.1.2 | exact hk.1.1.2.1 | exact hk.1.1.2.2 | exact hk.1.2.1.1 | exact hk.1.2.1.2 | exact hk.1.2.2.1 | exact hk.1.2.2.2 | exact hk.2.1.1.1 | exact hk.2.1.1.2 | exact hk.2.1.2.1 | exact hk.2.1.2.2 | exact hk.2.2.1.1 | exact hk.2.2.1.2 | exact hk.2.2.2.1 | exact hk.2.2.2.2 | constructor)))) hg (.inl rfl)); have n5_ := Aside0.mk (Kd.V_afterv (v := (.slice (some ⟨go44, 0, none⟩) x7_3.length co57)) (v1 := (.slice (some ⟨go44, 0, none⟩) x7_3.length co57)) (ok := (fun k_ => (w.heap.size ≤ k_) ∧ some k_ ≠ (.slice (some ⟨go40, 0, none⟩) x5_3.length co52 : Value).ownBlock ∧ some k_ ≠ (.slice Ao69 t341.length co69 : Value).ownBlock)) (by exact Kd.V_mono HL329_0.out (fun _ hk => by first | exact ⟨⟨hk.1.1.1, ⟨hk.1.2, hk.2⟩⟩, hk.1.1.2.1⟩ | (repeat' (first | exact hk.1 | exact hk.2 | exact hk.1.1 | exact hk.1.2 | exact hk.2.1 | exact hk.2.2 | exact hk.1.1.1 | exact hk.1.1.2 | exact hk.1.2.1 | exact hk.1.2.2 | exact hk.2.1.1 | exact hk.2.1.2 | exact hk.2.2.1 | exact hk.2.2.2 | exact hk.1.1.1.1 | exact hk.1.1.1.2 | exact hk.1.1.2.1 | exact hk.1.1.2.2 | exact hk.1.2.1.1 | exact hk.1.2.1.2 | exact hk.1.2.2.1 | exact hk.1.2.2.2 | exact hk.2.1.1.1 | exact hk.2.1.1.2 | exact hk.2.1.2.1 | exact hk.2.1.2.2 | exact hk.2.2.1.1 | exact hk.2.2.1.2 | exact hk.2.2.2.1 | exact hk.2.2.2.2 | constructor)))) hg (.inl rfl)); have n6_ := Aside0.mk (Kd.V_afterv (v := (.slice (some ⟨go44, 0, none⟩) x7_3.length co57)) (v1 := (.slice (some ⟨go44, 0, none⟩) x7_3.length co57)) (ok := (fun k_ => (w.heap.size ≤ k_) ∧ some k_ ≠ (.slice (some ⟨go40, 0, none⟩) x5_3.length co52 : Value).ownBlock ∧ some k_ ≠ (.slice Ao69 t341.length co69 : Value).ownBlock)) (by exact Kd.V_mono HL332_0.out (fun _ hk => by first | exact ⟨⟨hk.1.1.1, ⟨hk.1.2, hk.2⟩⟩, hk.1.1.2.1⟩ | (repeat' (first | exact hk.1 | exact hk.2 | exact hk.1.1 | exact hk.1.2 | exact hk.2.1 | exact hk.2.2 | exact hk.1.1.1 | exact hk.1.1.2 | exact hk.1.2.1 | exact hk.1.2.2 | exact hk.2.1.1 | exact hk.2.1.2 | exact hk.2.2.1 | exact hk.2.2.2 | exact hk.1.1.1.1 | exact hk.1.1.1.2 | exact hk.1.1.2.1 | exact hk.1.1.2.2 | exact hk.1.2.1.1 | exact hk.1.2.1.2 | exact hk.1.2.2.1 | exact hk.1.2.2.2 | exact hk.2.1.1.1 | exact hk.2.1.1.2 | exact hk.2.1.2.1 | exact hk.2.1.2.2 | exact hk.2.2.1.1 | exact hk.2.2.1.2 | exact hk.2.2.2.1 | exact hk.2.2.2.2 | constructor)))) hg (.inl rfl)); have n7_ := Aside0.mk (Kd.V_afterv (v := (.slice (some ⟨go44, 0, none⟩) x7_3.length co57)) (v1 := (.slice (some ⟨go44, 0, none⟩) x7_3.length co57)) (ok := (fun k_ => (w.heap.size ≤ k_) ∧ some k_ ≠ (.slice (some ⟨go40, 0, none⟩) x5_3.length co52 : Value).ownBlock ∧ some k_ ≠ (.slice Ao69 t341.length co69 : Value).ownBlock)) (by exact Kd.V_mono HL335_0.out (fun _ hk => by first | exact ⟨⟨hk.1.1.1, ⟨hk.1.2, hk.2⟩⟩, hk.1.1.2.1⟩ | (repeat' (first | exact hk.1 | exact hk.2 | exact hk.1.1 | exact hk.1.2 | exact hk.2.1 | exact hk.2.2 | exact hk.1.1.1 | exact hk.1.1.2 | exact hk.1.2.1 | exact hk.1.2.2 | exact hk.2.1.1 | exact hk.2.1.2 | exact hk.2.2.1 | exact hk.2.2.2 | exact hk.1.1.1.1 | exact hk.1.1.1.2 | exact hk.1.1.2.1 | exact hk.1.1.2.2 | exact hk.1.2.1.1 | exact hk.1.2.1.2 | exact hk.1.2.2.1 | exact hk.1.2.2.2 | exact hk.2.1.1.1 | exact hk.2.1.1.2 | exact hk.2.1.2.1 | exact hk.2.1.2.2 | exact hk.2.2.1.1 | exact hk.2.2.1.2 | exact hk.2.2.2.1 | exact hk.2.2.2.2 | constructor)))) hg (.inl rfl)); have n8_ := Aside0.mk (Kd.V_afterv (v := (.slice (some ⟨go44, 0, none⟩) x7_3.length co57)) (v1 := (.slice (some ⟨go44, 0, none⟩) x7_3.length co57)) (ok := (fun k_ => (w.heap.size ≤ k_) ∧ some k_ ≠ (.slice (some ⟨go40, 0, none⟩) x5_3.length co52 : Value).ownBlock ∧ some k_ ≠ (.slice Ao69 t341.length co69 : Value).ownBlock)) (by exact Kd.V_mono HL340_0.out (fun _ hk => by first | exact ⟨⟨hk.1.1.1.1, ⟨hk.1.1.2, hk.2⟩⟩, hk.1.2⟩ | (repeat' (first | exact hk.1 | exact hk.2 | exact hk.1.1 | exact hk.1.2 | exact hk.2.1 | exact hk.2.2 | exact hk.1.1.1 | exact hk.1.1.2 | exact hk.1.2.1 | exact hk.1.2.2 | exact hk.2.1.1 | exact hk.2.1.2 | exact hk.2.2.1 | exact hk.2.2.2 | exact hk.1.1.1.1 | exact hk.1.1.1.2 | exact hk.1.1.2.1 | exact hk.1.1.2.2 | exact hk.1.2.1.1 | exact hk.1.2.1.2 | exact hk.1.2.2.1 | exact hk.1.2.2.2 | exact hk.2.1.1.1 | exact hk.2.1.1.2 | exact hk.2.1.2.1 | exact hk.2.1.2.2 | exact hk.2.2.1.1 | exact hk.2.2.1.2 | exact hk.2.2.2.1 | exact hk.2.2.2.2 | constructor)))) hg (.inl rfl)); have n9_ := Aside0.mk ((by rw [hw]; exact below_set (HB.out) GB44.out : Below w.heap.size w w68)); clear HO_5; clear HO_7; clear HL324_0; clear HL325_0; clear HL328_0; clear HL329_0; clear HL332_0; clear HL335_0; clear HL340_0; clear HB; clear HO343; have HO_5 := n0_; have HO_7 := n1_; have HL324_0 := n2_; have HL325_0 := n3_; have HL328_0 := n4_; have HL329_0 := n5_; have HL332_0 := n6_; have HL335_0 := n7_; have HL340_0 := n8_; have HB := n9_; clear n0_ n1_ n2_ n3_ n4_ n5_ n6_ n7_ n8_ n9_; clear hg hw hp_))
                    go_loopg [13] kj23 (fun kq v13 w' => ∃ (x5_5 : List (List Int)) (x7_5 : List (List Int)) (x13_5 : Int), v13 = .int .i64 x13_5 ∧ Aside0 (spec_InvM.l3 kq (l0.length : Int) x5_5 x7_5 x8_3 x13_5 = some (r1, r2)) ∧ Aside0 (kq ≤ kj23) ∧ Aside0 (Kd.N (Kd.slice 3 (Kd.int .i64)) 43 w' w.heap.size (fun k_ => (w.heap.size ≤ k_) ∧ some k_ ≠ ((.slice (some ⟨go44, 0, none⟩) x7_3.length co57) : Value).ownBlock) (.slice (some ⟨go40, 0, none⟩) x5_3.length co52) x5_5) ∧ Aside0 (Kd.N (Kd.slice 3 (Kd.int .i64)) 43 w' w.heap.size (fun k_ => (w.heap.size ≤ k_) ∧ some k_ ≠ ((.slice (some ⟨go40, 0, none⟩) x5_3.length co52) : Value).ownBlock) (.slice (some ⟨go44, 0, none⟩) x7_3.length co57) x7_5) ∧ Aside0 (Below w.heap.size w w'))
                    case atStart => exact ⟨(y339), (y344), (0), (by first | rfl | (simp; done) | (simp [*]; done)), H', ⟨Nat.le_refl _⟩, ⟨by exact Kd.N_mono HO_5.out (fun _ hk => ⟨hk.1.1, hk.2⟩)⟩, ⟨by exact HO_7.out⟩, ⟨by repeat (first | exact HB.out | apply below_alloc | apply pw_below_drewN | apply below_drew1)⟩⟩
                    case round =>
                     clear H'
                     obtain ⟨x5_5, x7_5, x13_5, rfl, HA, HK5, HO_5, HO_7, HB⟩ := hrel
                     have hl5_5 := (Kd.N_reads' HO_5.out).1
                     rw [hl5_5] at HO_5
                     (try simp only [hl5_5])
                     (try simp only [hl5_5] at HO_7)
                     have hl7_5 := (Kd.N_reads' HO_7.out).1
                     rw [hl7_5] at HO_7
                     (try simp only [hl7_5])
                     (try simp only [hl7_5] at HO_5)
                     cases gk with
                     | zero => exact absurd HA.out (by simp [spec_InvM.l3])
                     | succ k5 =>
                      have H := HA.out
                      clear HA
                      simp only [spec_InvM.l3] at H
                      by_cases c70 : x13_5 < (l0.length : Int)
                      ·rw [if_pos c70] at H
                       have c70b0 : decide (x13_5 < (l0.length : Int)) = true := decide_eq_true c70
                       clear c70
                       have HC71 := Aside0.mk H
                       clear H
                       go_upto_region 30 with (fail)
                       go_cut [145] (fun v145 wc => ∃ (kq : Nat) (x145_70 : Bool), v145 = .bool x145_70 ∧ Aside0 (spec_InvM.j6 kq (l0.length : Int) x5_5 x7_5 x8_3 x13_5 x145_70 = some (r1, r2)) ∧ Aside0 (kq ≤ k5) ∧ Aside0 (Kd.N (Kd.slice 3 (Kd.int .i64)) 43 wc w.heap.size (fun k_ => (w.heap.size ≤ k_) ∧ some k_ ≠ ((.slice (some ⟨go44, 0, none⟩) x7_5.length co57) : Value).ownBlock) (.slice (some ⟨go40, 0, none⟩) x5_5.length co52) x5_5) ∧ Aside0 (Kd.N (Kd.slice 3 (Kd.int .i64)) 43 wc w.heap.size (fun k_ => (w.heap.size ≤ k_) ∧ some k_ ≠ ((.slice (some ⟨go40, 0, none⟩) x5_5.length co52) : Value).ownBlock) (.slice (some ⟨go44, 0, none⟩) x7_5.length co57) x7_5) ∧ Aside0 (Below w.heap.size w wc))
                       case first =>
                        have H := HC71.out
                        clear HC71
                        by_cases c72 : x13_5 = x8_3
                        ·rw [if_pos c72] at H
                         have c72b0 : (x13_5 == x8_3) = true := beq_iff_eq.mpr c72
                         have c72b1 : (x13_5 != x8_3) = false := bne_eq_false_iff_eq.mpr c72
                         clear c72
                         (first | rw [c72b0] | (simp only [i64_w, i32_w]; rw [c72b0]) | rw [c72b1] | skip)
                         have H' := Aside0.mk H
                         clear H
                         go_wp2
                         go_meet
                         case rel => exact ⟨_, (false), (by first | rfl | (simp; done) | (simp [*]; done)), H', ⟨by have := HJ1.out; have := HK2.out; have := HK3.out; have := HJ23.out; have := HK5.out; first | omega | exact Nat.le_refl _⟩, ⟨by (try simp only [hl5_5]); (try simp only [hl7_5]); exact HO_5.out⟩, ⟨by (try simp only [hl5_5]); (try simp only [hl7_5]); exact HO_7.out⟩, ⟨by repeat (first | exact HB.out | apply below_alloc | apply pw_below_drewN | apply below_drew1)⟩⟩
                        ·rw [if_neg c72] at H
                         have c72b0 : (x13_5 == x8_3) = false := beq_eq_false_iff_ne.mpr c72
                         have c72b1 : (x13_5 != x8_3) = true := bne_iff_ne.mpr c72
                         (first | rw [c72b0] | (simp only [i64_w, i32_w]; rw [c72b0]) | rw [c72b1] | skip)
                         by_cases c73 : 0 ≤ x13_5
                         ·rw [if_pos c73] at H
                          have c73b0 : decide (0 ≤ x13_5) = true := decide_eq_true c73
                          clear c73
                          by_cases c74 : x13_5 < (x5_5.length : Int)
                          ·rw [if_pos c74] at H
                           have c74b0 : decide (x13_5 < (x5_5.length : Int)) = true := decide_eq_true c74
                           clear c74
                           by_cases c75 : 0 ≤ x8_3
                           ·rw [if_pos c75] at H
                            have c75b0 : decide (0 ≤ x8_3) = true := decide_eq_true c75
                            clear c75
                            by_cases c76 : x8_3 < ((rd_L2 x5_5 x13_5).length : Int)
                            ·rw [if_pos c76] at H
                             have c76b0 : decide (x8_3 < ((rd_L2 x5_5 x13_5).length : Int)) = true := decide_eq_true c76
                             clear c76
                             have H' := Aside0.mk H
                             clear H
                             have p345 : 0 ≤ (x13_5 : Int) := of_decide_eq_true (by assumption)
                             have q345 : x13_5 < (x5_5.length : Int) := of_decide_eq_true (by assumption)
                             obtain ⟨ad345, A345_0, c345_0, e345, hx345_0, hl345_0, hi345_0⟩ := at_L2 (Kd.N_reads' HO_5.out).2.2 x13_5 p345 q345
                             obtain rfl : (⟨go40, 0, none⟩ : Addr) = ad345 := (by injection e345)
                             obtain ⟨ce345, hce345, hMe345, hcc345⟩ := Kd.N_get HO_5.out [] x13_5 p345 (by first | exact q345 | exact of_decide_eq_true (by assumption) | (have e_ := (Kd.N_reads' HO_5.out).1; omega))
                             obtain ⟨ua345_0, uc345_0, rfl, ul345_0, ge345_0⟩ := Kd.FK_slice_open hMe345
                             have hv345_0 := hcc345 0 _ rfl
                             rw [Nat.add_zero, show ((Kd.slice 3 (Kd.int .i64))).sz = 1 from rfl, Nat.mul_one] at hv345_0
                             replace hv345_0 := Option.some.inj (hv345_0.symm.trans hx345_0)
                             injection hv345_0 with hva_ hvn_ hvc_
                             rw [hva_] at ge345_0
                             rw [hvc_] at ul345_0
                             have HL345_0 := Aside0.mk (show Kd.V (Kd.int .i64) 3 _ w.heap.size _ _ (rd_L2 x5_5 x13_5) from Kd.V_mk ul345_0 ge345_0)
                             clear hva_ hvn_ hvc_ ge345_0 ul345_0
                             clear hcc345 hce345
                             (first | simp only [add_plain] at hx345_0 | simp only [add_at] at hx345_0 | simp only [Addr.add, Nat.zero_add] at hx345_0 | skip)
                             have HR345_0 := Aside0.mk hi345_0
                             have HC345_0 := Aside0.mk hl345_0
                             clear hi345_0 hl345_0
                             replace p345 := eq_true p345
                             replace q345 := eq_true q345
                             have p346 : 0 ≤ (x8_3 : Int) := of_decide_eq_true (by assumption)
                             have q346 : x8_3 < ((rd_L2 x5_5 x13_5).length : Int) := of_decide_eq_true (by assumption)
                             obtain ⟨ad346, e346, hx346_0⟩ := Kd.at_int (by repeat (first | (with_reducible exact HR345_0.out) | (with_reducible refine Kd.C_alloc ?_ _) | (with_reducible refine Kd.C_drewN ?_ _) | (with_reducible refine Kd.C_drew ?_) | exact HR345_0.out)) x8_3 p346 q346
                             cases e346
                             replace p346 := eq_true p346
                             replace q346 := eq_true q346
                             go_wp2
                             go_meet
                             case rel => exact ⟨_, (((rd (rd_L2 x5_5 x13_5) x8_3) != 0)), (by first | rfl | (simp; done) | (simp [*]; done)), H', ⟨by have := HJ1.out; have := HK2.out; have := HK3.out; have := HJ23.out; have := HK5.out; first | omega | exact Nat.le_refl _⟩, ⟨by (try simp only [hl5_5]); (try simp only [hl7_5]); exact HO_5.out⟩, ⟨by (try simp only [hl5_5]); (try simp only [hl7_5]); exact HO_7.out⟩, ⟨by repeat (first | exact HB.out | apply below_alloc | apply pw_below_drewN | apply below_drew1)⟩⟩
                            ·rw [if_neg c76] at H
                             exact absurd H (by simp)
                           ·rw [if_neg c75] at H
                            exact absurd H (by simp)
                          ·rw [if_neg c74] at H
                           exact absurd H (by simp)
                         ·rw [if_neg c73] at H
                          exact absurd H (by simp)
                       case rest =>
                        clear HC71
                        obtain ⟨kq, x145_70, rfl, HA, HJ70, HO_5, HO_7, HB⟩ := hcut
                        cases kq with
                        | zero => exact absurd HA.out (by simp [spec_InvM.j6])
                        | succ kj70 =>
                         have H := HA.out
                         clear HA
                         simp only [spec_InvM.j6] at H
                         by_cases c77 : x145_70 = true
                         ·subst c77
                          have H1 : (if 0 ≤ x13_5 then (if x13_5 < (x5_5.length : Int) then (if 0 ≤ x8_3 then (if x8_3 < ((rd_L2 x5_5 x13_5).length : Int) then (if x8_3 < (x5_5.length : Int) then ((spec_l06Row.f kj70 (rd_L2 x5_5 x13_5) (rd_L2 x5_5 x8_3) (rd (rd_L2 x5_5 x13_5) x8_3)).bind fun t351 => (if x13_5 < (x7_5.length : Int) then (if x8_3 < (x7_5.length : Int) then ((spec_l06Row.f kj70 (rd_L2 x7_5 x13_5) (rd_L2 x7_5 x8_3) (rd (rd_L2 x5_5 x13_5) x8_3)).bind fun t357 => (spec_InvM.l3 kj70 (l0.length : Int) (x5_5.set (x13_5 : Int).toNat t351) (x7_5.set (x13_5 : Int).toNat t357) x8_3 (wrap64 (x13_5 + 1)))) else (none)) else (none))) else (none)) else (none)) else (none)) else (none)) else (none)) = some (r1, r2) := by rw [if_pos rfl] at H; exact H
                          clear H
                          have H := H1
                          clear H1
                          by_cases c78 : 0 ≤ x13_5
                          ·rw [if_pos c78] at H
                           have c78b0 : decide (0 ≤ x13_5) = true := decide_eq_true c78
                           clear c78
                           by_cases c79 : x13_5 < (x5_5.length : Int)
                           ·rw [if_pos c79] at H
                            have c79b0 : decide (x13_5 < (x5_5.length : Int)) = true := decide_eq_true c79
                            clear c79
                            by_cases c80 : 0 ≤ x8_3
                            ·rw [if_pos c80] at H
                             have c80b0 : decide (0 ≤ x8_3) = true := decide_eq_true c80
                             clear c80
                             by_cases c81 : x8_3 < ((rd_L2 x5_5 x13_5).length : Int)
                             ·rw [if_pos c81] at H
                              have c81b0 : decide (x8_3 < ((rd_L2 x5_5 x13_5).length : Int)) = true := decide_eq_true c81
                              clear c81
                              by_cases c82 : x8_3 < (x5_5.length : Int)
                              ·rw [if_pos c82] at H
                               have c82b0 : decide (x8_3 < (x5_5.length : Int)) = true := decide_eq_true c82
                               clear c82
                               replace H := Option.bind_eq_some_iff.mp H
                               obtain ⟨t351, A830, H⟩ := H
                               replace H : (if x13_5 < (x7_5.length : Int) then (if x8_3 < (x7_5.length : Int) then ((spec_l06Row.f kj70 (rd_L2 x7_5 x13_5) (rd_L2 x7_5 x8_3) (rd (rd_L2 x5_5 x13_5) x8_3)).bind fun t357 => (spec_InvM.l3 kj70 (l0.length : Int) (x5_5.set (x13_5 : Int).toNat t351) (x7_5.set (x13_5 : Int).toNat t357) x8_3 (wrap64 (x13_5 + 1)))) else (none)) else (none)) = some (r1, r2) := H
                               have A83 := Aside0.mk A830
                               clear A830
                               obtain ⟨y354, hy354⟩ : ∃ y_ : List (List Int), y_ = (x5_5.set (x13_5 : Int).toNat t351) := ⟨_, rfl⟩
                               replace H : (if x13_5 < (x7_5.length : Int) then (if x8_3 < (x7_5.length : Int) then ((spec_l06Row.f kj70 (rd_L2 x7_5 x13_5) (rd_L2 x7_5 x8_3) (rd (rd_L2 x5_5 x13_5) x8_3)).bind fun t357 => (spec_InvM.l3 kj70 (l0.length : Int) y354 (x7_5.set (x13_5 : Int).toNat t357) x8_3 (wrap64 (x13_5 + 1)))) else (none)) else (none)) = some (r1, r2) := by first | (rw [hy354]; with_reducible exact H) | (have H2_ := (Option.bind_some _ _).symm.trans H; rw [hy354]; with_reducible exact H2_) | (have H2_ := (Option.bind_some _ _).symm.trans H; with_reducible exact H2_) | with_reducible exact H | (rw [hy354]; exact H) | exact H
                               have Ny354 := Aside0.mk hy354
                               clear hy354
                               by_cases c85 : x13_5 < (x7_5.length : Int)
                               ·rw [if_pos c85] at H
                                have c85b0 : decide (x13_5 < (x7_5.length : Int)) = true := decide_eq_true c85
                                clear c85
                                by_cases c86 : x8_3 < (x7_5.length : Int)
                                ·rw [if_pos c86] at H
                                 have c86b0 : decide (x8_3 < (x7_5.length : Int)) = true := decide_eq_true c86
                                 clear c86
                                 replace H := Option.bind_eq_some_iff.mp H
                                 obtain ⟨t357, A870, H⟩ := H
                                 replace H : (spec_InvM.l3 kj70 (l0.length : Int) y354 (x7_5.set (x13_5 : Int).toNat t357) x8_3 (wrap64 (x13_5 + 1))) = some (r1, r2) := H
                                 have A87 := Aside0.mk A870
                                 clear A870
                                 obtain ⟨y360, hy360⟩ : ∃ y_ : List (List Int), y_ = (x7_5.set (x13_5 : Int).toNat t357) := ⟨_, rfl⟩
                                 replace H : (spec_InvM.l3 kj70 (l0.length : Int) y354 y360 x8_3 (wrap64 (x13_5 + 1))) = some (r1, r2) := by first | (rw [hy360]; with_reducible exact H) | (have H2_ := (Option.bind_some _ _).symm.trans H; rw [hy360]; with_reducible exact H2_) | (have H2_ := (Option.bind_some _ _).symm.trans H; with_reducible exact H2_) | with_reducible exact H | (rw [hy360]; exact H) | exact H
                                 have Ny360 := Aside0.mk hy360
                                 clear hy360
                                 have H' := Aside0.mk H
                                 clear H
                                 have p347 : 0 ≤ (x13_5 : Int) := of_decide_eq_true (by assumption)
                                 have q347 : x13_5 < (x5_5.length : Int) := of_decide_eq_true (by assumption)
                                 obtain ⟨ad347, A347_0, c347_0, e347, hx347_0, hl347_0, hi347_0⟩ := at_L2 (Kd.N_reads' HO_5.out).2.2 x13_5 p347 q347
                                 obtain rfl : (⟨go40, 0, none⟩ : Addr) = ad347 := (by injection e347)
                                 obtain ⟨ce347, hce347, hMe347, hcc347⟩ := Kd.N_get HO_5.out [] x13_5 p347 (by first | exact q347 | exact of_decide_eq_true (by assumption) | (have e_ := (Kd.N_reads' HO_5.out).1; omega))
                                 obtain ⟨ua347_0, uc347_0, rfl, ul347_0, ge347_0⟩ := Kd.FK_slice_open hMe347
                                 have hv347_0 := hcc347 0 _ rfl
                                 rw [Nat.add_zero, show ((Kd.slice 3 (Kd.int .i64))).sz = 1 from rfl, Nat.mul_one] at hv347_0
                                 replace hv347_0 := Option.some.inj (hv347_0.symm.trans hx347_0)
                                 injection hv347_0 with hva_ hvn_ hvc_
                                 rw [hva_] at ge347_0
                                 rw [hvc_] at ul347_0
                                 have HL347_0 := Aside0.mk (show Kd.V (Kd.int .i64) 3 _ w.heap.size _ _ (rd_L2 x5_5 x13_5) from Kd.V_mk ul347_0 ge347_0)
                                 clear hva_ hvn_ hvc_ ge347_0 ul347_0
                                 clear hcc347 hce347
                                 (first | simp only [add_plain] at hx347_0 | simp only [add_at] at hx347_0 | simp only [Addr.add, Nat.zero_add] at hx347_0 | skip)
                                 have HR347_0 := Aside0.mk hi347_0
                                 have HC347_0 := Aside0.mk hl347_0
                                 clear hi347_0 hl347_0
                                 replace p347 := eq_true p347
                                 replace q347 := eq_true q347
                                 have p348 : 0 ≤ (x8_3 : Int) := of_decide_eq_true (by assumption)
                                 have q348 : x8_3 < ((rd_L2 x5_5 x13_5).length : Int) := of_decide_eq_true (by assumption)
                                 obtain ⟨ad348, e348, hx348_0⟩ := Kd.at_int (by repeat (first | (with_reducible exact HR347_0.out) | (with_reducible refine Kd.C_alloc ?_ _) | (with_reducible refine Kd.C_drewN ?_ _) | (with_reducible refine Kd.C_drew ?_) | exact HR347_0.out)) x8_3 p348 q348
                                 cases e348
                                 replace p348 := eq_true p348
                                 replace q348 := eq_true q348
                                 try go_wp2
                                 have n0_ := Aside0.mk (Kd.N_drew HO_5.out)
                                 have n1_ := Aside0.mk (Kd.N_drew HO_7.out)
                                 have n2_ := Aside0.mk (Kd.V_drew HL347_0.out)
                                 have n3_ := Aside0.mk (Kd.C_drew HR347_0.out)
                                 have n4_ := Aside0.mk (below_drew1 HB.out)
                                 clear HO_5
                                 clear HO_7
                                 clear HL347_0
                                 clear HR347_0
                                 clear HB
                                 have HO_5 := n0_
                                 have HO_7 := n1_
                                 have HL347_0 := n2_
                                 have HR347_0 := n3_
                                 have HB := n4_
                                 clear n0_ n1_ n2_ n3_ n4_
                                 have p349 : 0 ≤ (x13_5 : Int) := of_decide_eq_true (by assumption)
                                 have q349 : x13_5 < (x5_5.length : Int) := of_decide_eq_true (by assumption)
                                 obtain ⟨ad349, A349_0, c349_0, e349, hx349_0, hl349_0, hi349_0⟩ := at_L2 (Kd.N_reads' HO_5.out).2.2 x13_5 p349 q349
                                 obtain rfl : (⟨go40, 0, none⟩ : Addr) = ad349 := (by injection e349)
                                 obtain ⟨ce349, hce349, hMe349, hcc349⟩ := Kd.N_get HO_5.out [] x13_5 p349 (by first | exact q349 | exact of_decide_eq_true (by assumption) | (have e_ := (Kd.N_reads' HO_5.out).1; omega))
                                 obtain ⟨ua349_0, uc349_0, rfl, ul349_0, ge349_0⟩ := Kd.FK_slice_open hMe349
                                 have hv349_0 := hcc349 0 _ rfl
                                 rw [Nat.add_zero, show ((Kd.slice 3 (Kd.int .i64))).sz = 1 from rfl, Nat.mul_one] at hv349_0
                                 replace hv349_0 := Option.some.inj (hv349_0.symm.trans hx349_0)
                                 injection hv349_0 with hva_ hvn_ hvc_
                                 rw [hva_] at ge349_0
                                 rw [hvc_] at ul349_0
                                 have HL349_0 := Aside0.mk (show Kd.V (Kd.int .i64) 3 _ w.heap.size _ _ (rd_L2 x5_5 x13_5) from Kd.V_mk ul349_0 ge349_0)
                                 clear hva_ hvn_ hvc_ ge349_0 ul349_0
                                 clear hcc349 hce349
                                 (first | simp only [add_plain] at hx349_0 | simp only [add_at] at hx349_0 | simp only [Addr.add, Nat.zero_add] at hx349_0 | skip)
                                 have HR349_0 := Aside0.mk hi349_0
                                 have HC349_0 := Aside0.mk hl349_0
                                 clear hi349_0 hl349_0
                                 replace p349 := eq_true p349
                                 replace q349 := eq_true q349
                                 have p350 : 0 ≤ (x8_3 : Int) := of_decide_eq_true (by assumption)
                                 have q350 : x8_3 < (x5_5.length : Int) := of_decide_eq_true (by assumption)
                                 obtain ⟨ad350, A350_0, c350_0, e350, hx350_0, hl350_0, hi350_0⟩ := at_L2 (Kd.N_reads' HO_5.out).2.2 x8_3 p350 q350
                                 obtain rfl : (⟨go40, 0, none⟩ : Addr) = ad350 := (by injection e350)
                                 obtain ⟨ce350, hce350, hMe350, hcc350⟩ := Kd.N_get HO_5.out [] x8_3 p350 (by first | exact q350 | exact of_decide_eq_true (by assumption) | (have e_ := (Kd.N_reads' HO_5.out).1; omega))
                                 obtain ⟨ua350_0, uc350_0, rfl, ul350_0, ge350_0⟩ := Kd.FK_slice_open hMe350
                                 have hv350_0 := hcc350 0 _ rfl
                                 rw [Nat.add_zero, show ((Kd.slice 3 (Kd.int .i64))).sz = 1 from rfl, Nat.mul_one] at hv350_0
                                 replace hv350_0 := Option.some.inj (hv350_0.symm.trans hx350_0)
                                 injection hv350_0 with hva_ hvn_ hvc_
                                 rw [hva_] at ge350_0
                                 rw [hvc_] at ul350_0
                                 have HL350_0 := Aside0.mk (show Kd.V (Kd.int .i64) 3 _ w.heap.size _ _ (rd_L2 x5_5 x8_3) from Kd.V_mk ul350_0 ge350_0)
                                 clear hva_ hvn_ hvc_ ge350_0 ul350_0
                                 clear hcc350 hce350
                                 (first | simp only [add_plain] at hx350_0 | simp only [add_at] at hx350_0 | simp only [Addr.add, Nat.zero_add] at hx350_0 | skip)
                                 have HR350_0 := Aside0.mk hi350_0
                                 have HC350_0 := Aside0.mk hl350_0
                                 clear hi350_0 hl350_0
                                 replace p350 := eq_true p350
                                 replace q350 := eq_true q350
                                 refine start_ (n := 14) (S := fun w' => w'.cell? ⟨go40, (x13_5).toNat, none⟩ = some (.slice A349_0 (rd_L2 x5_5 x13_5).length c349_0) ∧ w'.cell? ⟨go40, (x8_3).toNat, none⟩ = some (.slice A350_0 (rd_L2 x5_5 x8_3).length c350_0)) (ds := [13]) #[false, false, false, false, false, false, false, false, false, false, false, false, false, false] (by kernel_rfl) rfl rfl ⟨hx349_0, hx350_0⟩ (fun hHeld => ?_); refine with_tabW spec_InvM.tab32 spec_InvM.bits32 (fun HT_ HW_ => ?_)
                                 generalize wc.drew = w89 at HO_5 HO_7 HL347_0 HR347_0 HB HL349_0 HL350_0 HR349_0 HR350_0 hx349_0 hx350_0 hHeld ⊢
                                 refine pure_ (i := 0) (N := some 153) (v := ?_) (a' := ?_) #[true, false, false, false, false, false, false, false, false, false, false, false, false, false] rfl rfl (any_of HT_.out (by kernel_rfl)) (fun _ _ _ h => h) (Or.inl ⟨by rfl, ?_⟩) ?_ ?_
                                 rotate_left
                                 ·intro w'
                                  go_simp
                                  with_reducible rfl
                                 rotate_left
                                 ·simp only [Act.put, List.setIfInBounds_toArray, List.set_cons_zero, List.set_cons_succ, i64_w, i32_w]
                                  rfl
                                 refine pure_ (i := 1) (N := some 154) (v := ?_) (a' := ?_) #[true, true, false, false, false, false, false, false, false, false, false, false, false, false] rfl rfl (any_of HT_.out (by kernel_rfl)) (fun _ _ _ h => h) (Or.inl ⟨by rfl, ?_⟩) ?_ ?_
                                 rotate_left
                                 ·intro w'
                                  go_simp
                                  with_reducible rfl
                                 rotate_left
                                 ·simp only [Act.put, List.setIfInBounds_toArray, List.set_cons_zero, List.set_cons_succ, i64_w, i32_w]
                                  rfl
                                 refine pure_ (i := 2) (N := some 155) (v := ?_) (a' := ?_) #[true, true, true, false, false, false, false, false, false, false, false, false, false, false] rfl rfl (any_of HT_.out (by kernel_rfl)) (fun _ _ _ h => h) (Or.inl ⟨by rfl, ?_⟩) ?_ ?_
                                 rotate_left
                                 ·intro w'
                                  go_simp
                                  with_reducible rfl
                                 rotate_left
                                 ·simp only [Act.put, List.setIfInBounds_toArray, List.set_cons_zero, List.set_cons_succ, i64_w, i32_w]
                                  rfl
                                 refine pure_ (i := 3) (N := some 156) (v := ?_) (a' := ?_) #[true, true, true, true, false, false, false, false, false, false, false, false, false, false] rfl rfl (any_of HT_.out (by kernel_rfl)) (fun _ _ _ h => h) (Or.inl ⟨by rfl, ?_⟩) ?_ ?_
                                 rotate_left
                                 ·intro w'
                                  go_simp
                                  with_reducible rfl
                                 rotate_left
                                 ·simp only [Act.put, List.setIfInBounds_toArray, List.set_cons_zero, List.set_cons_succ, i64_w, i32_w]
                                  rfl
                                 refine pure_ (i := 4) (N := some 157) (v := ?_) (a' := ?_) #[true, true, true, true, true, false, false, false, false, false, false, false, false, false] rfl rfl (any_of HT_.out (by kernel_rfl)) (fun _ _ _ h => h) (Or.inl ⟨by rfl, ?_⟩) ?_ ?_
                                 rotate_left
                                 ·intro w'
                                  go_simp
                                  with_reducible rfl
                                 rotate_left
                                 ·simp only [Act.put, List.setIfInBounds_toArray, List.set_cons_zero, List.set_cons_succ, i64_w, i32_w]
                                  rfl
                                 refine pure_ (i := 6) (N := some 159) (v := ?_) (a' := ?_) #[true, true, true, true, true, false, true, false, false, false, false, false, false, false] rfl rfl (any_of HT_.out (by kernel_rfl)) (fun _ _ _ h => h) (Or.inl ⟨by rfl, ?_⟩) ?_ ?_
                                 rotate_left
                                 ·intro w'
                                  go_simp
                                  with_reducible rfl
                                 rotate_left
                                 ·simp only [Act.put, List.setIfInBounds_toArray, List.set_cons_zero, List.set_cons_succ, i64_w, i32_w]
                                  rfl
                                 refine pure_ (i := 7) (N := some 160) (v := ?_) (a' := ?_) #[true, true, true, true, true, false, true, true, false, false, false, false, false, false] rfl rfl (any_of HT_.out (by kernel_rfl)) (fun _ _ _ h => h) (Or.inl ⟨by rfl, ?_⟩) ?_ ?_
                                 rotate_left
                                 ·intro w'
                                  go_simp
                                  with_reducible rfl
                                 rotate_left
                                 ·simp only [Act.put, List.setIfInBounds_toArray, List.set_cons_zero, List.set_cons_succ, i64_w, i32_w]
                                  rfl
                                 refine pure_ (i := 8) (N := some 161) (v := ?_) (a' := ?_) #[true, true, true, true, true, false, true, true, true, false, false, false, false, false] rfl rfl (any_of HT_.out (by kernel_rfl)) (fun _ _ _ h => h) (Or.inl ⟨by rfl, ?_⟩) ?_ ?_
                                 rotate_left
                                 ·intro w'
                                  go_simp
                                  with_reducible rfl
                                 rotate_left
                                 ·simp only [Act.put, List.setIfInBounds_toArray, List.set_cons_zero, List.set_cons_succ, i64_w, i32_w]
                                  rfl
                                 refine pure_ (i := 10) (N := some 163) (v := ?_) (a' := ?_) #[true, true, true, true, true, false, true, true, true, false, true, false, false, false] rfl rfl (any_of HT_.out (by kernel_rfl)) (fun _ _ _ h => h) (Or.inl ⟨by rfl, ?_⟩) ?_ ?_
                                 rotate_left
                                 ·intro w'
                                  go_simp
                                  with_reducible rfl
                                 rotate_left
                                 ·simp only [Act.put, List.setIfInBounds_toArray, List.set_cons_zero, List.set_cons_succ, i64_w, i32_w]
                                  rfl
                                 refine take_ (i := 5) (N := some 158) (v := ?_) (a' := ?_) #[true, true, true, true, true, true, true, true, true, false, true, false, false, false] rfl rfl (take_ofW HT_.out HW_.out (by kernel_rfl)) (fun _ _ _ h => h) (Or.inl ⟨by rfl, ?_⟩) hHeld ?_ ?_
                                 rotate_left
                                 ·rintro w' ⟨s0, s1⟩
                                  go_simp
                                  with_reducible rfl
                                 rotate_left
                                 ·simp only [Act.put, List.setIfInBounds_toArray, List.set_cons_zero, List.set_cons_succ, i64_w, i32_w]
                                  rfl
                                 refine take_ (i := 9) (N := some 162) (v := ?_) (a' := ?_) #[true, true, true, true, true, true, true, true, true, true, true, false, false, false] rfl rfl (take_ofW HT_.out HW_.out (by kernel_rfl)) (fun _ _ _ h => h) (Or.inl ⟨by rfl, ?_⟩) hHeld ?_ ?_
                                 rotate_left
                                 ·rintro w' ⟨s0, s1⟩
                                  go_simp
                                  with_reducible rfl
                                 rotate_left
                                 ·simp only [Act.put, List.setIfInBounds_toArray, List.set_cons_zero, List.set_cons_succ, i64_w, i32_w]
                                  rfl
                                 refine one_ (i := 11) (N := some 164) #[true, true, true, true, true, true, true, true, true, true, true, true, false, false] rfl rfl (one_of HT_.out (by kernel_rfl)) (by decide) (fun K hK => ?_)
                                 refine goes_ Try.func64 (by kernel_rfl) rfl #[.slice A349_0 (rd_L2 x5_5 x13_5).length c349_0, .slice A350_0 (rd_L2 x5_5 x8_3).length c350_0, .int .i64 (rd (rd_L2 x5_5 x13_5) x8_3)] (by rfl) rfl rfl (by (try simp only [List.map_toArray, List.map_cons, List.map_nil]); first | done | rfl) ?_
                                 with_reducible refine (spec_l06Row.calls kj70 _ _ (rd_L2 x5_5 x13_5) _ _ (rd_L2 x5_5 x8_3) (rd (rd_L2 x5_5 x13_5) x8_3) t351 _ ?side1 ?side2 ?side3 ?side4 A83.out).mono ?_
                                 (case side1 => repeat (first | exact (by repeat (first | (with_reducible exact HR349_0.out) | (with_reducible refine Kd.C_alloc ?_ _) | (with_reducible refine Kd.C_drewN ?_ _) | (with_reducible refine Kd.C_drew ?_) | exact HR349_0.out)) | (with_reducible refine Kd.C_alloc ?_ _) | (with_reducible refine Kd.C_drewN ?_ _) | (with_reducible refine Kd.C_drew ?_)))
                                 (case side2 => exact HC349_0.out)
                                 (case side3 => repeat (first | exact (by repeat (first | (with_reducible exact HR350_0.out) | (with_reducible refine Kd.C_alloc ?_ _) | (with_reducible refine Kd.C_drewN ?_ _) | (with_reducible refine Kd.C_drew ?_) | exact HR350_0.out)) | (with_reducible refine Kd.C_alloc ?_ _) | (with_reducible refine Kd.C_drewN ?_ _) | (with_reducible refine Kd.C_drew ?_)))
                                 (case side4 => exact HC350_0.out)
                                 rintro e w90 ⟨v352, rfl, ho0, hb⟩
                                 have HS0_ := (hb.cell (World.block_lt_of_cell? _ _ (hHeld.1))).trans (hHeld.1)
                                 have HS1_ := (hb.cell (World.block_lt_of_cell? _ _ (hHeld.2))).trans (hHeld.2)
                                 refine ⟨_, rfl, ?_⟩
                                 have n0_ := Aside0.mk (Kd.N_elder' (by exact HO_5.out) (Kd.R_base ho0) hb)
                                 have n1_ := Aside0.mk (Kd.N_elder' (by exact HO_7.out) (Kd.R_base ho0) hb)
                                 have n2_ := Aside0.mk (Kd.V_elder' (by exact HL347_0.out) (Kd.R_base ho0) hb)
                                 have n3_ := Aside0.mk (Kd.V_elder' (by exact HL349_0.out) (Kd.R_base ho0) hb)
                                 have n4_ := Aside0.mk (Kd.V_elder' (by exact HL350_0.out) (Kd.R_base ho0) hb)
                                 have n5_ := Aside0.mk (Kd.R_lower (Kd.R_newM (M := fun k_ => (w.heap.size ≤ k_)) ho0 (below_size (by repeat (first | exact HB.out | apply below_alloc | apply pw_below_drewN | apply below_drew1))) (fun k_ h_ => h_)) (below_size (by repeat (first | exact HB.out | apply below_alloc | apply pw_below_drewN | apply below_drew1))))
                                 have n6_ := Aside0.mk (Kd.C_below (by repeat (first | (with_reducible exact HR347_0.out) | (with_reducible refine Kd.C_alloc ?_ _) | (with_reducible refine Kd.C_drewN ?_ _) | (with_reducible refine Kd.C_drew ?_) | exact HR347_0.out)) hb)
                                 have n7_ := Aside0.mk (Kd.C_below (by repeat (first | (with_reducible exact HR349_0.out) | (with_reducible refine Kd.C_alloc ?_ _) | (with_reducible refine Kd.C_drewN ?_ _) | (with_reducible refine Kd.C_drew ?_) | exact HR349_0.out)) hb)
                                 have n8_ := Aside0.mk (Kd.C_below (by repeat (first | (with_reducible exact HR350_0.out) | (with_reducible refine Kd.C_alloc ?_ _) | (with_reducible refine Kd.C_drewN ?_ _) | (with_reducible refine Kd.C_drew ?_) | exact HR350_0.out)) hb)
                                 have n9_ := Aside0.mk (below_step (by repeat (first | exact HB.out | apply below_alloc | apply pw_below_drewN | apply below_drew1)) hb)
                                 clear HO_5
                                 clear HO_7
                                 clear HL347_0
                                 clear HL349_0
                                 clear HL350_0
                                 clear HR347_0
                                 clear HR349_0
                                 clear HR350_0
                                 clear HB
                                 have HO_5 := n0_
                                 have HO_7 := n1_
                                 have HL347_0 := n2_
                                 have HL349_0 := n3_
                                 have HL350_0 := n4_
                                 have HO353 := n5_
                                 have HR347_0 := n6_
                                 have HR349_0 := n7_
                                 have HR350_0 := n8_
                                 have HB := n9_
                                 clear n0_ n1_ n2_ n3_ n4_ n5_ n6_ n7_ n8_ n9_
                                 (try clear hb)
                                 (try clear hb2)
                                 (try clear hk)
                                 (try clear hi)
                                 (try clear ho0)
                                 have p84 : 0 ≤ (x13_5 : Int) := of_decide_eq_true (by assumption)
                                 have q84 : (x13_5 : Int) < ((x5_5.length : Int) : Int) := of_decide_eq_true (by assumption)
                                 obtain ⟨ce84, hcl84, hM84, hcc84, hfr84⟩ := Kd.N_elem HO_5.out [] (x13_5 : Int) p84 q84
                                 obtain ⟨ua84_0, uc84_0, rfl, ul84_0, ge84_0⟩ := Kd.FK_slice_open hM84
                                 have hx84_0 := hcc84 0 _ rfl
                                 have hf84_0 := hfr84 0
                                 (try simp only [show ((Kd.slice 3 (Kd.int .i64))).sz = 1 from rfl, Nat.mul_one, Nat.add_zero] at hx84_0)
                                 (try simp only [show ((Kd.slice 3 (Kd.int .i64))).sz = 1 from rfl, Nat.mul_one, Nat.add_zero] at hf84_0)
                                 (try clear hM84); clear hcl84 hcc84 hfr84
                                 replace p84 := eq_true p84
                                 replace q84 := eq_true q84
                                 obtain ⟨Ao92, co92, eo92⟩ := Kd.R_slice HO353.out
                                 (first | subst eo92 | (injection eo92 with f1_ f2_ f3_; have f4_ := f1_.symm; have f5_ := f3_.symm; clear f1_ f2_ f3_; subst f4_; subst f5_))
                                 have HX91 := Aside0.mk (show Kd.N (Kd.slice 3 (Kd.int .i64)) 43 _ w.heap.size (fun k_ => (w.heap.size ≤ k_) ∧ some k_ ≠ (.slice (some ⟨go44, 0, none⟩) x7_5.length co57 : Value).ownBlock ∧ some k_ ≠ (.slice Ao92 t351.length co92 : Value).ownBlock) (.slice (some ⟨go40, 0, none⟩) x5_5.length co52) x5_5 from (Kd.N_mono (HO_5.out) (fun k_ hk => ⟨hk.1.1, ⟨hk.1.2, hk.2⟩⟩)))
                                 replace HX91 := Aside0.mk (show Kd.N (Kd.slice 3 (Kd.int .i64)) 43 _ w.heap.size (fun k_ => (w.heap.size ≤ k_) ∧ some k_ ≠ (.slice (some ⟨go44, 0, none⟩) x7_5.length co57 : Value).ownBlock) (.slice (some ⟨go40, 0, none⟩) x5_5.length co52) x5_5 from Kd.N_mono HX91.out (fun k_ hk => ⟨hk.1, hk.2.1⟩))
                                 obtain ⟨ce91, hcl91, hM91, hcc91, hfr91⟩ := Kd.N_elem HX91.out [] (x13_5 : Int) (of_decide_eq_true (by assumption)) (by have h_ : (x13_5 : Int) < ((x5_5.length : Int) : Int) := of_decide_eq_true (by assumption); first | exact h_ | (have e_ := (Kd.N_reads' HO_5.out).1; omega) | simpa using h_)
                                 obtain ⟨ua91_0, uc91_0, rfl, ul91_0, ge91_0⟩ := Kd.FK_slice_open hM91
                                 have HP91 := (Kd.N_seg HX91.out (x13_5 : Int) (of_decide_eq_true (by assumption)) (by have h_ : (x13_5 : Int) < ((x5_5.length : Int) : Int) := of_decide_eq_true (by assumption); first | exact h_ | (have e_ := (Kd.N_reads' HO_5.out).1; omega) | simpa using h_) (seg := [.slice Ao92 t351.length co92]) (j := 0) hcl91 hcc91 (show 1 ≤ 1 from by decide) (x' := t351) (Kd.FK_slice_mk (Kd.R_reads' (Kd.R_mono (ok' := (fun k_ => ((fun k_ => (w.heap.size ≤ k_) ∧ some k_ ≠ (.slice (some ⟨go44, 0, none⟩) x7_5.length co57 : Value).ownBlock)) k_ ∧ k_ ≠ go40)) (Kd.R_apart' (Kd.R_apart' (HO353.out) (Kd.N_typed HO_7.out) (by decide)) (Kd.N_typed HO_5.out) (by decide)) (fun k_ hk => ⟨⟨hk.1.1.1, hk.1.2⟩, fun e_ => (hk.2) (by rw [e_]; rfl)⟩))).2.1 (Kd.R_F (Kd.R_mono (ok' := (fun k_ => ((fun k_ => (w.heap.size ≤ k_) ∧ some k_ ≠ (.slice (some ⟨go44, 0, none⟩) x7_5.length co57 : Value).ownBlock)) k_ ∧ k_ ≠ go40)) (Kd.R_apart' (Kd.R_apart' (HO353.out) (Kd.N_typed HO_7.out) (by decide)) (Kd.N_typed HO_5.out) (by decide)) (fun k_ hk => ⟨⟨hk.1.1.1, hk.1.2⟩, fun e_ => (hk.2) (by rw [e_]; rfl)⟩)))) (fun _ hk => hk)).1
                                 (try simp only [show ((Kd.slice 3 (Kd.int .i64))).sz = 1 from rfl, Nat.mul_one, Nat.add_zero] at HP91)
                                 rw [← Ny354.out] at HP91
                                 have HQ91 := Aside0.mk HP91
                                 (try clear hM91); clear hcl91 hcc91 hfr91 HP91
                                 refine hK.out _ _ ⟨HS0_, HS1_⟩ (fun hHeld => ?_)
                                 clear hK K
                                 refine norm_ (a' := ?_) ?_ ?_
                                 rotate_left
                                 ·show Act.put _ (some 164) _ = _
                                  simp only [Act.put, List.setIfInBounds_toArray, List.set_cons_zero, List.set_cons_succ, i64_w, i32_w]
                                  rfl
                                 refine pure_ (i := 12) (N := some 165) (v := ?_) (a' := ?_) #[true, true, true, true, true, true, true, true, true, true, true, true, true, false] rfl rfl (any_of HT_.out (by kernel_rfl)) (fun _ _ _ h => h) (Or.inl ⟨by rfl, ?_⟩) ?_ ?_
                                 rotate_left
                                 ·intro w'
                                  go_simp
                                  with_reducible rfl
                                 rotate_left
                                 ·simp only [Act.put, List.setIfInBounds_toArray, List.set_cons_zero, List.set_cons_succ, i64_w, i32_w]
                                  rfl
                                 refine last_ (i := 13) (N := none) #[true, true, true, true, true, true, true, true, true, true, true, true, true, true] rfl rfl (one_of HT_.out (by kernel_rfl)) (by decide) (fun K hK => ?_)
                                 refine skip_ (w1 := ?_) (by rfl) rfl ?_ ?_
                                 rotate_left
                                 ·go_simp
                                  rfl
                                 refine hK.out _ _ ?_
                                 clear hK K
                                 refine done_ (done_of HT_.out (by kernel_rfl)) ?_
                                 try go_wp2
                                 have n0_ : Aside0 (Kd.N (Kd.slice 3 (Kd.int .i64)) 43 (w90.setCell ⟨go40, (x13_5 : Int).toNat, none⟩ (.slice Ao92 t351.length co92)) w.heap.size (fun k_ => (w.heap.size ≤ k_) ∧ some k_ ≠ (.slice (some ⟨go44, 0, none⟩) x7_5.length co57 : Value).ownBlock) (.slice (some ⟨go40, 0, none⟩) x5_5.length co52) y354) := ⟨by exact HQ91.out⟩
                                 have n1_ : Aside0 (Kd.N (Kd.slice 3 (Kd.int .i64)) 43 (w90.setCell ⟨go40, (x13_5 : Int).toNat, none⟩ (.slice Ao92 t351.length co92)) w.heap.size (fun k_ => (w.heap.size ≤ k_) ∧ some k_ ≠ (.slice (some ⟨go40, 0, none⟩) x5_5.length co52 : Value).ownBlock) (.slice (some ⟨go44, 0, none⟩) x7_5.length co57) x7_5) := ⟨by exact Kd.N_mono (Kd.N_far (p := ⟨go40, (x13_5 : Int).toNat, none⟩) (Kd.N_mono HO_7.out (fun k_ hk => (⟨hk, fun e_ => hk.1.2 (by rw [e_]; rfl)⟩ : _ ∧ k_ ≠ go40))) (fun _ hk => hk.2) (.slice Ao92 t351.length co92)) (fun _ hk => ⟨hk.1.1.1, hk.1.1.2⟩)⟩
                                 have n2_ : Aside0 (Kd.V (Kd.int .i64) 3 (w90.setCell ⟨go40, (x13_5 : Int).toNat, none⟩ (.slice Ao92 t351.length co92)) w.heap.size (fun k_ => (w.heap.size ≤ k_) ∧ some k_ ≠ (.slice (some ⟨go40, 0, none⟩) x5_5.length co52 : Value).ownBlock ∧ some k_ ≠ (.slice (some ⟨go44, 0, none⟩) x7_5.length co57 : Value).ownBlock) (.slice (some ad348) (rd_L2 x5_5 x13_5).length c347_0) (rd_L2 x5_5 x13_5)) := ⟨by exact Kd.V_mono (Kd.V_far (p := ⟨go40, (x13_5 : Int).toNat, none⟩) (Kd.V_mono HL347_0.out (fun k_ hk => (⟨hk, fun e_ => hk.1.2 (by rw [e_]; rfl)⟩ : _ ∧ k_ ≠ go40))) (fun _ hk => hk.2) (.slice Ao92 t351.length co92)) (fun _ hk => ⟨hk.1.1.1.1, ⟨hk.1.1.2, hk.1.1.1.2⟩⟩)⟩
                                 have n3_ : Aside0 (Kd.V (Kd.int .i64) 3 (w90.setCell ⟨go40, (x13_5 : Int).toNat, none⟩ (.slice Ao92 t351.length co92)) w.heap.size (fun k_ => (w.heap.size ≤ k_) ∧ some k_ ≠ (.slice (some ⟨go40, 0, none⟩) x5_5.length co52 : Value).ownBlock ∧ some k_ ≠ (.slice (some ⟨go44, 0, none⟩) x7_5.length co57 : Value).ownBlock) (.slice A349_0 (rd_L2 x5_5 x13_5).length c349_0) (rd_L2 x5_5 x13_5)) := ⟨by exact Kd.V_mono (Kd.V_far (p := ⟨go40, (x13_5 : Int).toNat, none⟩) (Kd.V_mono HL349_0.out (fun k_ hk => (⟨hk, fun e_ => hk.1.2 (by rw [e_]; rfl)⟩ : _ ∧ k_ ≠ go40))) (fun _ hk => hk.2) (.slice Ao92 t351.length co92)) (fun _ hk => ⟨hk.1.1.1.1, ⟨hk.1.1.2, hk.1.1.1.2⟩⟩)⟩
                                 have n4_ : Aside0 (Kd.V (Kd.int .i64) 3 (w90.setCell ⟨go40, (x13_5 : Int).toNat, none⟩ (.slice Ao92 t351.length co92)) w.heap.size (fun k_ => (w.heap.size ≤ k_) ∧ some k_ ≠ (.slice (some ⟨go40, 0, none⟩) x5_5.length co52 : Value).ownBlock ∧ some k_ ≠ (.slice (some ⟨go44, 0, none⟩) x7_5.length co57 : Value).ownBlock) (.slice A350_0 (rd_L2 x5_5 x8_3).length c350_0) (rd_L2 x5_5 x8_3)) := ⟨by exact Kd.V_mono (Kd.V_far (p := ⟨go40, (x13_5 : Int).toNat, none⟩) (Kd.V_mono HL350_0.out (fun k_ hk => (⟨hk, fun e_ => hk.1.2 (by rw [e_]; rfl)⟩ : _ ∧ k_ ≠ go40))) (fun _ hk => hk.2) (.slice Ao92 t351.length co92)) (fun _ hk => ⟨hk.1.1.1.1, ⟨hk.1.1.2, hk.1.1.1.2⟩⟩)⟩
                                 have n5_ : Aside0 (Below w.heap.size w (w90.setCell ⟨go40, (x13_5 : Int).toNat, none⟩ (.slice Ao92 t351.length co92))) := ⟨by repeat (first | (with_reducible first | exact HB.out | apply below_alloc | apply pw_below_drewN | apply below_drew1 | refine below_set ?_ GB40.out) | exact HB.out)⟩
                                 (try clear HO_5)
                                 (try clear HO_7)
                                 (try clear HL347_0)
                                 (try clear HL349_0)
                                 (try clear HL350_0)
                                 (try clear HB)
                                 generalize (w90.setCell ⟨go40, (x13_5 : Int).toNat, none⟩ (.slice Ao92 t351.length co92)) = w93 at n0_ n1_ n2_ n3_ n4_ n5_ ⊢
                                 have HO_5 := n0_
                                 have HO_7 := n1_
                                 have HL347_0 := n2_
                                 have HL349_0 := n3_
                                 have HL350_0 := n4_
                                 have HB := n5_
                                 clear n0_ n1_ n2_ n3_ n4_ n5_
                                 have n0_ := Aside0.mk (Kd.N_drew HO_5.out)
                                 have n1_ := Aside0.mk (Kd.N_drew HO_7.out)
                                 have n2_ := Aside0.mk (Kd.V_drew HL347_0.out)
                                 have n3_ := Aside0.mk (Kd.V_drew HL349_0.out)
                                 have n4_ := Aside0.mk (Kd.V_drew HL350_0.out)
                                 have n5_ := Aside0.mk (below_drew1 HB.out)
                                 clear HO_5
                                 clear HO_7
                                 clear HL347_0
                                 clear HL349_0
                                 clear HL350_0
                                 clear HB
                                 have HO_5 := n0_
                                 have HO_7 := n1_
                                 have HL347_0 := n2_
                                 have HL349_0 := n3_
                                 have HL350_0 := n4_
                                 have HB := n5_
                                 clear n0_ n1_ n2_ n3_ n4_ n5_
                                 have p355 : 0 ≤ (x13_5 : Int) := of_decide_eq_true (by assumption)
                                 have q355 : x13_5 < (x7_5.length : Int) := of_decide_eq_true (by assumption)
                                 obtain ⟨ad355, A355_0, c355_0, e355, hx355_0, hl355_0, hi355_0⟩ := at_L2 (Kd.N_reads' HO_7.out).2.2 x13_5 p355 q355
                                 obtain rfl : (⟨go44, 0, none⟩ : Addr) = ad355 := (by injection e355)
                                 obtain ⟨ce355, hce355, hMe355, hcc355⟩ := Kd.N_get HO_7.out [] x13_5 p355 (by first | exact q355 | exact of_decide_eq_true (by assumption) | (have e_ := (Kd.N_reads' HO_7.out).1; omega))
                                 obtain ⟨ua355_0, uc355_0, rfl, ul355_0, ge355_0⟩ := Kd.FK_slice_open hMe355
                                 have hv355_0 := hcc355 0 _ rfl
                                 rw [Nat.add_zero, show ((Kd.slice 3 (Kd.int .i64))).sz = 1 from rfl, Nat.mul_one] at hv355_0
                                 replace hv355_0 := Option.some.inj (hv355_0.symm.trans hx355_0)
                                 injection hv355_0 with hva_ hvn_ hvc_
                                 rw [hva_] at ge355_0
                                 rw [hvc_] at ul355_0
                                 have HL355_0 := Aside0.mk (show Kd.V (Kd.int .i64) 3 _ w.heap.size _ _ (rd_L2 x7_5 x13_5) from Kd.V_mk ul355_0 ge355_0)
                                 clear hva_ hvn_ hvc_ ge355_0 ul355_0
                                 clear hcc355 hce355
                                 (first | simp only [add_plain] at hx355_0 | simp only [add_at] at hx355_0 | simp only [Addr.add, Nat.zero_add] at hx355_0 | skip)
                                 have HR355_0 := Aside0.mk hi355_0
                                 have HC355_0 := Aside0.mk hl355_0
                                 clear hi355_0 hl355_0
                                 replace p355 := eq_true p355
                                 replace q355 := eq_true q355
                                 have p356 : 0 ≤ (x8_3 : Int) := of_decide_eq_true (by assumption)
                                 have q356 : x8_3 < (x7_5.length : Int) := of_decide_eq_true (by assumption)
                                 obtain ⟨ad356, A356_0, c356_0, e356, hx356_0, hl356_0, hi356_0⟩ := at_L2 (Kd.N_reads' HO_7.out).2.2 x8_3 p356 q356
                                 obtain rfl : (⟨go44, 0, none⟩ : Addr) = ad356 := (by injection e356)
                                 obtain ⟨ce356, hce356, hMe356, hcc356⟩ := Kd.N_get HO_7.out [] x8_3 p356 (by first | exact q356 | exact of_decide_eq_true (by assumption) | (have e_ := (Kd.N_reads' HO_7.out).1; omega))
                                 obtain ⟨ua356_0, uc356_0, rfl, ul356_0, ge356_0⟩ := Kd.FK_slice_open hMe356
                                 have hv356_0 := hcc356 0 _ rfl
                                 rw [Nat.add_zero, show ((Kd.slice 3 (Kd.int .i64))).sz = 1 from rfl, Nat.mul_one] at hv356_0
                                 replace hv356_0 := Option.some.inj (hv356_0.symm.trans hx356_0)
                                 injection hv356_0 with hva_ hvn_ hvc_
                                 rw [hva_] at ge356_0
                                 rw [hvc_] at ul356_0
                                 have HL356_0 := Aside0.mk (show Kd.V (Kd.int .i64) 3 _ w.heap.size _ _ (rd_L2 x7_5 x8_3) from Kd.V_mk ul356_0 ge356_0)
                                 clear hva_ hvn_ hvc_ ge356_0 ul356_0
                                 clear hcc356 hce356
                                 (first | simp only [add_plain] at hx356_0 | simp only [add_at] at hx356_0 | simp only [Addr.add, Nat.zero_add] at hx356_0 | skip)
                                 have HR356_0 := Aside0.mk hi356_0
                                 have HC356_0 := Aside0.mk hl356_0
                                 clear hi356_0 hl356_0
                                 replace p356 := eq_true p356
                                 replace q356 := eq_true q356
                                 refine start_ (n := 14) (S := fun w' => w'.cell? ⟨go44, (x13_5).toNat, none⟩ = some (.slice A355_0 (rd_L2 x7_5 x13_5).length c355_0) ∧ w'.cell? ⟨go44, (x8_3).toNat, none⟩ = some (.slice A356_0 (rd_L2 x7_5 x8_3).length c356_0)) (ds := [13]) #[false, false, false, false, false, false, false, false, false, false, false, false, false, false] (by kernel_rfl) rfl rfl ⟨hx355_0, hx356_0⟩ (fun hHeld => ?_); refine with_tabW spec_InvM.tab33 spec_InvM.bits33 (fun HT_ HW_ => ?_)
                                 generalize w93.drew = w94 at HO_5 HO_7 HL347_0 HL349_0 HL350_0 HB HL355_0 HL356_0 HQ91 HR355_0 HR356_0 hx355_0 hx356_0 hHeld ⊢
                                 refine pure_ (i := 0) (N := some 166) (v := ?_) (a' := ?_) #[true, false, false, false, false, false, false, false, false, false, false, false, false, false] rfl rfl (any_of HT_.out (by kernel_rfl)) (fun _ _ _ h => h) (Or.inl ⟨by rfl, ?_⟩) ?_ ?_
                                 rotate_left
                                 ·intro w'
                                  go_simp
                                  with_reducible rfl
                                 rotate_left
                                 ·simp only [Act.put, List.setIfInBounds_toArray, List.set_cons_zero, List.set_cons_succ, i64_w, i32_w]
                                  rfl
                                 refine pure_ (i := 1) (N := some 167) (v := ?_) (a' := ?_) #[true, true, false, false, false, false, false, false, false, false, false, false, false, false] rfl rfl (any_of HT_.out (by kernel_rfl)) (fun _ _ _ h => h) (Or.inl ⟨by rfl, ?_⟩) ?_ ?_
                                 rotate_left
                                 ·intro w'
                                  go_simp
                                  with_reducible rfl
                                 rotate_left
                                 ·simp only [Act.put, List.setIfInBounds_toArray, List.set_cons_zero, List.set_cons_succ, i64_w, i32_w]
                                  rfl
                                 refine pure_ (i := 2) (N := some 168) (v := ?_) (a' := ?_) #[true, true, true, false, false, false, false, false, false, false, false, false, false, false] rfl rfl (any_of HT_.out (by kernel_rfl)) (fun _ _ _ h => h) (Or.inl ⟨by rfl, ?_⟩) ?_ ?_
                                 rotate_left
                                 ·intro w'
                                  go_simp
                                  with_reducible rfl
                                 rotate_left
                                 ·simp only [Act.put, List.setIfInBounds_toArray, List.set_cons_zero, List.set_cons_succ, i64_w, i32_w]
                                  rfl
                                 refine pure_ (i := 3) (N := some 169) (v := ?_) (a' := ?_) #[true, true, true, true, false, false, false, false, false, false, false, false, false, false] rfl rfl (any_of HT_.out (by kernel_rfl)) (fun _ _ _ h => h) (Or.inl ⟨by rfl, ?_⟩) ?_ ?_
                                 rotate_left
                                 ·intro w'
                                  go_simp
                                  with_reducible rfl
                                 rotate_left
                                 ·simp only [Act.put, List.setIfInBounds_toArray, List.set_cons_zero, List.set_cons_succ, i64_w, i32_w]
                                  rfl
                                 refine pure_ (i := 4) (N := some 170) (v := ?_) (a' := ?_) #[true, true, true, true, true, false, false, false, false, false, false, false, false, false] rfl rfl (any_of HT_.out (by kernel_rfl)) (fun _ _ _ h => h) (Or.inl ⟨by rfl, ?_⟩) ?_ ?_
                                 rotate_left
                                 ·intro w'
                                  go_simp
                                  with_reducible rfl
                                 rotate_left
                                 ·simp only [Act.put, List.setIfInBounds_toArray, List.set_cons_zero, List.set_cons_succ, i64_w, i32_w]
                                  rfl
                                 refine pure_ (i := 6) (N := some 172) (v := ?_) (a' := ?_) #[true, true, true, true, true, false, true, false, false, false, false, false, false, false] rfl rfl (any_of HT_.out (by kernel_rfl)) (fun _ _ _ h => h) (Or.inl ⟨by rfl, ?_⟩) ?_ ?_
                                 rotate_left
                                 ·intro w'
                                  go_simp
                                  with_reducible rfl
                                 rotate_left
                                 ·simp only [Act.put, List.setIfInBounds_toArray, List.set_cons_zero, List.set_cons_succ, i64_w, i32_w]
                                  rfl
                                 refine pure_ (i := 7) (N := some 173) (v := ?_) (a' := ?_) #[true, true, true, true, true, false, true, true, false, false, false, false, false, false] rfl rfl (any_of HT_.out (by kernel_rfl)) (fun _ _ _ h => h) (Or.inl ⟨by rfl, ?_⟩) ?_ ?_
                                 rotate_left
                                 ·intro w'
                                  go_simp
                                  with_reducible rfl
                                 rotate_left
                                 ·simp only [Act.put, List.setIfInBounds_toArray, List.set_cons_zero, List.set_cons_succ, i64_w, i32_w]
                                  rfl
                                 refine pure_ (i := 8) (N := some 174) (v := ?_) (a' := ?_) #[true, true, true, true, true, false, true, true, true, false, false, false, false, false] rfl rfl (any_of HT_.out (by kernel_rfl)) (fun _ _ _ h => h) (Or.inl ⟨by rfl, ?_⟩) ?_ ?_
                                 rotate_left
                                 ·intro w'
                                  go_simp
                                  with_reducible rfl
                                 rotate_left
                                 ·simp only [Act.put, List.setIfInBounds_toArray, List.set_cons_zero, List.set_cons_succ, i64_w, i32_w]
                                  rfl
                                 refine pure_ (i := 10) (N := some 176) (v := ?_) (a' := ?_) #[true, true, true, true, true, false, true, true, true, false, true, false, false, false] rfl rfl (any_of HT_.out (by kernel_rfl)) (fun _ _ _ h => h) (Or.inl ⟨by rfl, ?_⟩) ?_ ?_
                                 rotate_left
                                 ·intro w'
                                  go_simp
                                  with_reducible rfl
                                 rotate_left
                                 ·simp only [Act.put, List.setIfInBounds_toArray, List.set_cons_zero, List.set_cons_succ, i64_w, i32_w]
                                  rfl
                                 refine take_ (i := 5) (N := some 171) (v := ?_) (a' := ?_) #[true, true, true, true, true, true, true, true, true, false, true, false, false, false] rfl rfl (take_ofW HT_.out HW_.out (by kernel_rfl)) (fun _ _ _ h => h) (Or.inl ⟨by rfl, ?_⟩) hHeld ?_ ?_
                                 rotate_left
                                 ·rintro w' ⟨s0, s1⟩
                                  go_simp
                                  with_reducible rfl
                                 rotate_left
                                 ·simp only [Act.put, List.setIfInBounds_toArray, List.set_cons_zero, List.set_cons_succ, i64_w, i32_w]
                                  rfl
                                 refine take_ (i := 9) (N := some 175) (v := ?_) (a' := ?_) #[true, true, true, true, true, true, true, true, true, true, true, false, false, false] rfl rfl (take_ofW HT_.out HW_.out (by kernel_rfl)) (fun _ _ _ h => h) (Or.inl ⟨by rfl, ?_⟩) hHeld ?_ ?_
                                 rotate_left
                                 ·rintro w' ⟨s0, s1⟩
                                  go_simp
                                  with_reducible rfl
                                 rotate_left
                                 ·simp only [Act.put, List.setIfInBounds_toArray, List.set_cons_zero, List.set_cons_succ, i64_w, i32_w]
                                  rfl
                                 refine one_ (i := 11) (N := some 177) #[true, true, true, true, true, true, true, true, true, true, true, true, false, false] rfl rfl (one_of HT_.out (by kernel_rfl)) (by decide) (fun K hK => ?_)
                                 refine goes_ Try.func64 (by kernel_rfl) rfl #[.slice A355_0 (rd_L2 x7_5 x13_5).length c355_0, .slice A356_0 (rd_L2 x7_5 x8_3).length c356_0, .int .i64 (rd (rd_L2 x5_5 x13_5) x8_3)] (by rfl) rfl rfl (by (try simp only [List.map_toArray, List.map_cons, List.map_nil]); first | done | rfl) ?_
                                 with_reducible refine (spec_l06Row.calls kj70 _ _ (rd_L2 x7_5 x13_5) _ _ (rd_L2 x7_5 x8_3) (rd (rd_L2 x5_5 x13_5) x8_3) t357 _ ?side1 ?side2 ?side3 ?side4 A87.out).mono ?_
                                 (case side1 => repeat (first | exact (by repeat (first | (with_reducible exact HR355_0.out) | (with_reducible refine Kd.C_alloc ?_ _) | (with_reducible refine Kd.C_drewN ?_ _) | (with_reducible refine Kd.C_drew ?_) | exact HR355_0.out)) | (with_reducible refine Kd.C_alloc ?_ _) | (with_reducible refine Kd.C_drewN ?_ _) | (with_reducible refine Kd.C_drew ?_)))
                                 (case side2 => exact HC355_0.out)
                                 (case side3 => repeat (first | exact (by repeat (first | (with_reducible exact HR356_0.out) | (with_reducible refine Kd.C_alloc ?_ _) | (with_reducible refine Kd.C_drewN ?_ _) | (with_reducible refine Kd.C_drew ?_) | exact HR356_0.out)) | (with_reducible refine Kd.C_alloc ?_ _) | (with_reducible refine Kd.C_drewN ?_ _) | (with_reducible refine Kd.C_drew ?_)))
                                 (case side4 => exact HC356_0.out)
                                 rintro e w95 ⟨v358, rfl, ho0, hb⟩
                                 have HS0_ := (hb.cell (World.block_lt_of_cell? _ _ (hHeld.1))).trans (hHeld.1)
                                 have HS1_ := (hb.cell (World.block_lt_of_cell? _ _ (hHeld.2))).trans (hHeld.2)
                                 refine ⟨_, rfl, ?_⟩
                                 have n0_ := Aside0.mk (Kd.N_elder' (by exact HO_5.out) (Kd.R_base ho0) hb)
                                 have n1_ := Aside0.mk (Kd.N_elder' (by exact HO_7.out) (Kd.R_base ho0) hb)
                                 have n2_ := Aside0.mk (Kd.V_elder' (by exact HL347_0.out) (Kd.R_base ho0) hb)
                                 have n3_ := Aside0.mk (Kd.V_elder' (by exact HL349_0.out) (Kd.R_base ho0) hb)
                                 have n4_ := Aside0.mk (Kd.V_elder' (by exact HL350_0.out) (Kd.R_base ho0) hb)
                                 have n5_ := Aside0.mk (Kd.V_elder' (by exact HL355_0.out) (Kd.R_base ho0) hb)
                                 have n6_ := Aside0.mk (Kd.V_elder' (by exact HL356_0.out) (Kd.R_base ho0) hb)
                                 have n7_ := Aside0.mk (Kd.R_lower (Kd.R_newM (M := fun k_ => (w.heap.size ≤ k_)) ho0 (below_size (by repeat (first | exact HB.out | apply below_alloc | apply pw_below_drewN | apply below_drew1))) (fun k_ h_ => h_)) (below_size (by repeat (first | exact HB.out | apply below_alloc | apply pw_below_drewN | apply below_drew1))))
                                 have n8_ := Aside0.mk (Kd.C_below (by repeat (first | (with_reducible exact HR355_0.out) | (with_reducible refine Kd.C_alloc ?_ _) | (with_reducible refine Kd.C_drewN ?_ _) | (with_reducible refine Kd.C_drew ?_) | exact HR355_0.out)) hb)
                                 have n9_ := Aside0.mk (Kd.C_below (by repeat (first | (with_reducible exact HR356_0.out) | (with_reducible refine Kd.C_alloc ?_ _) | (with_reducible refine Kd.C_drewN ?_ _) | (with_reducible refine Kd.C_drew ?_) | exact HR356_0.out)) hb)
                                 have n10_ := Aside0.mk (below_step (by repeat (first | exact HB.out | apply below_alloc | apply pw_below_drewN | apply below_drew1)) hb)
                                 clear HO_5
                                 clear HO_7
                                 clear HL347_0
                                 clear HL349_0
                                 clear HL350_0
                                 clear HL355_0
                                 clear HL356_0
                                 clear HR355_0
                                 clear HR356_0
                                 clear HB
                                 have HO_5 := n0_
                                 have HO_7 := n1_
                                 have HL347_0 := n2_
                                 have HL349_0 := n3_
                                 have HL350_0 := n4_
                                 have HL355_0 := n5_
                                 have HL356_0 := n6_
                                 have HO359 := n7_
                                 have HR355_0 := n8_
                                 have HR356_0 := n9_
                                 have HB := n10_
                                 clear n0_ n1_ n2_ n3_ n4_ n5_ n6_ n7_ n8_ n9_ n10_
                                 (try clear hb)
                                 (try clear hb2)
                                 (try clear hk)
                                 (try clear hi)
                                 (try clear ho0)
                                 have p88 : 0 ≤ (x13_5 : Int) := of_decide_eq_true (by assumption)
                                 have q88 : (x13_5 : Int) < ((x7_5.length : Int) : Int) := of_decide_eq_true (by assumption)
                                 obtain ⟨ce88, hcl88, hM88, hcc88, hfr88⟩ := Kd.N_elem HO_7.out [] (x13_5 : Int) p88 q88
                                 obtain ⟨ua88_0, uc88_0, rfl, ul88_0, ge88_0⟩ := Kd.FK_slice_open hM88
                                 have hx88_0 := hcc88 0 _ rfl
                                 have hf88_0 := hfr88 0
                                 (try simp only [show ((Kd.slice 3 (Kd.int .i64))).sz = 1 from rfl, Nat.mul_one, Nat.add_zero] at hx88_0)
                                 (try simp only [show ((Kd.slice 3 (Kd.int .i64))).sz = 1 from rfl, Nat.mul_one, Nat.add_zero] at hf88_0)
                                 (try clear hM88); clear hcl88 hcc88 hfr88
                                 replace p88 := eq_true p88
                                 replace q88 := eq_true q88
                                 obtain ⟨Ao97, co97, eo97⟩ := Kd.R_slice HO359.out
                                 (first | subst eo97 | (injection eo97 with f1_ f2_ f3_; have f4_ := f1_.symm; have f5_ := f3_.symm; clear f1_ f2_ f3_; subst f4_; subst f5_))
                                 have HX96 := Aside0.mk (show Kd.N (Kd.slice 3 (Kd.int .i64)) 43 _ w.heap.size (fun k_ => (w.heap.size ≤ k_) ∧ some k_ ≠ (.slice (some ⟨go40, 0, none⟩) x5_5.length co52 : Value).ownBlock ∧ some k_ ≠ (.slice Ao97 t357.length co97 : Value).ownBlock) (.slice (some ⟨go44, 0, none⟩) x7_5.length co57) x7_5 from (Kd.N_mono (HO_7.out) (fun k_ hk => ⟨hk.1.1, ⟨hk.1.2, hk.2⟩⟩)))
                                 replace HX96 := Aside0.mk (show Kd.N (Kd.slice 3 (Kd.int .i64)) 43 _ w.heap.size (fun k_ => (w.heap.size ≤ k_) ∧ some k_ ≠ (.slice (some ⟨go40, 0, none⟩) x5_5.length co52 : Value).ownBlock) (.slice (some ⟨go44, 0, none⟩) x7_5.length co57) x7_5 from Kd.N_mono HX96.out (fun k_ hk => ⟨hk.1, hk.2.1⟩))
                                 obtain ⟨ce96, hcl96, hM96, hcc96, hfr96⟩ := Kd.N_elem HX96.out [] (x13_5 : Int) (of_decide_eq_true (by assumption)) (by have h_ : (x13_5 : Int) < ((x7_5.length : Int) : Int) := of_decide_eq_true (by assumption); first | exact h_ | (have e_ := (Kd.N_reads' HO_7.out).1; omega) | simpa using h_)
                                 obtain ⟨ua96_0, uc96_0, rfl, ul96_0, ge96_0⟩ := Kd.FK_slice_open hM96
                                 have HP96 := (Kd.N_seg HX96.out (x13_5 : Int) (of_decide_eq_true (by assumption)) (by have h_ : (x13_5 : Int) < ((x7_5.length : Int) : Int) := of_decide_eq_true (by assumption); first | exact h_ | (have e_ := (Kd.N_reads' HO_7.out).1; omega) | simpa using h_) (seg := [.slice Ao97 t357.length co97]) (j := 0) hcl96 hcc96 (show 1 ≤ 1 from by decide) (x' := t357) (Kd.FK_slice_mk (Kd.R_reads' (Kd.R_mono (ok' := (fun k_ => ((fun k_ => (w.heap.size ≤ k_) ∧ some k_ ≠ (.slice (some ⟨go40, 0, none⟩) x5_5.length co52 : Value).ownBlock)) k_ ∧ k_ ≠ go44)) (Kd.R_apart' (Kd.R_apart' (HO359.out) (Kd.N_typed HO_5.out) (by decide)) (Kd.N_typed HO_7.out) (by decide)) (fun k_ hk => ⟨⟨hk.1.1.1, hk.1.2⟩, fun e_ => (hk.2) (by rw [e_]; rfl)⟩))).2.1 (Kd.R_F (Kd.R_mono (ok' := (fun k_ => ((fun k_ => (w.heap.size ≤ k_) ∧ some k_ ≠ (.slice (some ⟨go40, 0, none⟩) x5_5.length co52 : Value).ownBlock)) k_ ∧ k_ ≠ go44)) (Kd.R_apart' (Kd.R_apart' (HO359.out) (Kd.N_typed HO_5.out) (by decide)) (Kd.N_typed HO_7.out) (by decide)) (fun k_ hk => ⟨⟨hk.1.1.1, hk.1.2⟩, fun e_ => (hk.2) (by rw [e_]; rfl)⟩)))) (fun _ hk => hk)).1
                                 (try simp only [show ((Kd.slice 3 (Kd.int .i64))).sz = 1 from rfl, Nat.mul_one, Nat.add_zero] at HP96)
                                 rw [← Ny360.out] at HP96
                                 have HQ96 := Aside0.mk HP96
                                 (try clear hM96); clear hcl96 hcc96 hfr96 HP96
                                 refine hK.out _ _ ⟨HS0_, HS1_⟩ (fun hHeld => ?_)
                                 clear hK K
                                 refine norm_ (a' := ?_) ?_ ?_
                                 rotate_left
                                 ·show Act.put _ (some 177) _ = _
                                  simp only [Act.put, List.setIfInBounds_toArray, List.set_cons_zero, List.set_cons_succ, i64_w, i32_w]
                                  rfl
                                 refine pure_ (i := 12) (N := some 178) (v := ?_) (a' := ?_) #[true, true, true, true, true, true, true, true, true, true, true, true, true, false] rfl rfl (any_of HT_.out (by kernel_rfl)) (fun _ _ _ h => h) (Or.inl ⟨by rfl, ?_⟩) ?_ ?_
                                 rotate_left
                                 ·intro w'
                                  go_simp
                                  with_reducible rfl
                                 rotate_left
                                 ·simp only [Act.put, List.setIfInBounds_toArray, List.set_cons_zero, List.set_cons_succ, i64_w, i32_w]
                                  rfl
                                 refine last_ (i := 13) (N := none) #[true, true, true, true, true, true, true, true, true, true, true, true, true, true] rfl rfl (one_of HT_.out (by kernel_rfl)) (by decide) (fun K hK => ?_)
                                 refine skip_ (w1 := ?_) (by rfl) rfl ?_ ?_
                                 rotate_left
                                 ·go_simp
                                  rfl
                                 refine hK.out _ _ ?_
                                 clear hK K
                                 refine done_ (done_of HT_.out (by kernel_rfl)) ?_
                                 try go_wp2
                                 (try simp only [← hl5_5, ← hl7_5])
                                 go_roundg kj70
                                 case measure => have := HJ1.out; have := HK2.out; have := HK3.out; have := HJ23.out; have := HK5.out; have := HJ70.out; omega
                                 case rel => exact ⟨(y354), (y360), (wrap64 (x13_5 + 1)), (by first | rfl | (simp; done) | (simp [*]; done)), H', ⟨by have := HJ1.out; have := HK2.out; have := HK3.out; have := HJ23.out; have := HK5.out; have := HJ70.out; omega⟩, ⟨by (try simp only [hl5_5]); (try simp only [hl7_5]); exact Kd.N_mono (Kd.N_far (p := ⟨go44, (x13_5 : Int).toNat, none⟩) (Kd.N_mono HO_5.out (fun k_ hk => (⟨hk, fun e_ => hk.1.2 (by rw [e_]; rfl)⟩ : _ ∧ k_ ≠ go44))) (fun _ hk => hk.2) (.slice Ao97 t357.length co97)) (fun _ hk => ⟨hk.1.1.1, hk.1.1.2⟩)⟩, ⟨by (try simp only [hl5_5]); (try simp only [hl7_5]); exact HQ96.out⟩, ⟨by repeat (first | (with_reducible first | exact HB.out | apply below_alloc | apply pw_below_drewN | apply below_drew1 | refine below_set ?_ GB44.out) | exact HB.out)⟩⟩
                                ·rw [if_neg c86] at H
                                 exact absurd H (by simp)
                               ·rw [if_neg c85] at H
                                exact absurd H (by simp)
                              ·rw [if_neg c82] at H
                               exact absurd H (by simp)
                             ·rw [if_neg c81] at H
                              exact absurd H (by simp)
                            ·rw [if_neg c80] at H
                             exact absurd H (by simp)
                           ·rw [if_neg c79] at H
                            exact absurd H (by simp)
                          ·rw [if_neg c78] at H
                           exact absurd H (by simp)
                         ·replace c77 := Bool.eq_false_iff.mpr c77
                          subst c77
                          have H1 : (spec_InvM.l3 kj70 (l0.length : Int) x5_5 x7_5 x8_3 (wrap64 (x13_5 + 1))) = some (r1, r2) := by rw [if_neg (show ¬ (false = true) by decide)] at H; exact H
                          clear H
                          have H := H1
                          clear H1
                          have H' := Aside0.mk H
                          clear H
                          go_wp2
                          (try simp only [← hl5_5, ← hl7_5])
                          go_roundg kj70
                          case measure => have := HJ1.out; have := HK2.out; have := HK3.out; have := HJ23.out; have := HK5.out; have := HJ70.out; omega
                          case rel => exact ⟨(x5_5), (x7_5), (wrap64 (x13_5 + 1)), (by first | rfl | (simp; done) | (simp [*]; done)), H', ⟨by have := HJ1.out; have := HK2.out; have := HK3.out; have := HJ23.out; have := HK5.out; have := HJ70.out; omega⟩, ⟨by (try simp only [hl5_5]); (try simp only [hl7_5]); exact HO_5.out⟩, ⟨by (try simp only [hl5_5]); (try simp only [hl7_5]); exact HO_7.out⟩, ⟨by repeat (first | exact HB.out | apply below_alloc | apply pw_below_drewN | apply below_drew1)⟩⟩
                      ·rw [if_neg c70] at H
                       have c70b0 : decide (x13_5 < (l0.length : Int)) = false := decide_eq_false c70
                       clear c70
                       have H' := Aside0.mk H
                       clear H
                       go_wp2
                       (try simp only [← hl5_5, ← hl7_5])
                       go_roundg k5
                       case measure => have := HJ1.out; have := HK2.out; have := HK3.out; have := HJ23.out; have := HK5.out; omega
                       case rel => exact ⟨(x5_5), (x7_5), (wrap64 (x8_3 + 1)), (by first | rfl | (simp; done) | (simp [*]; done)), H', ⟨by have := HJ1.out; have := HK2.out; have := HK3.out; have := HJ23.out; have := HK5.out; omega⟩, ⟨by (try simp only [hl5_5]); (try simp only [hl7_5]); exact HO_5.out⟩, ⟨by (try simp only [hl5_5]); (try simp only [hl7_5]); exact HO_7.out⟩, ⟨by repeat (first | exact HB.out | apply below_alloc | apply pw_below_drewN | apply below_drew1)⟩⟩
                   ·rw [if_neg c46] at H
                    exact absurd H (by simp)
                  ·rw [if_neg c43] at H
                   exact absurd H (by simp)
                 ·rw [if_neg c42] at H
                  exact absurd H (by simp)
                ·rw [if_neg c39] at H
                 exact absurd H (by simp)
               ·rw [if_neg c38] at H
                exact absurd H (by simp)
              ·rw [if_neg c37] at H
               exact absurd H (by simp)
             ·rw [if_neg c36] at H
              exact absurd H (by simp)
         ·rw [if_neg c23] at H
          have c23b0 : decide (x8_3 < (l0.length : Int)) = false := decide_eq_false c23
          clear c23
          simp only [Option.some.injEq, Prod.mk.injEq] at H
          obtain ⟨rfl, rfl⟩ := H
          go_wp2
          go_ret2
          exact ⟨_, by first | rfl | (simp [errW_none, errW_some] <;> rfl) | (simp [*, errW_none, errW_some] <;> rfl), by exact Kd.N_mono HO_7.out (fun _ hk => hk.1), by repeat (first | exact HB.out | apply below_alloc | apply pw_below_drewN | apply below_drew1)⟩

end Go.Proofs.Ythjdnjmlamfdbaa.XFnApplies
