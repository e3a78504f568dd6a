/- What the functions of a law compute, and that their calls compute it: written by a program of this session (xprint.py), which turns the kit print at a few places. -/
import Derived.Test.YthjdnjmlamfdbaaXFnInversesx0
import Derived.Test.YthjdnjmlamfdbaaXFnInversesx2
import Derived.Test.YthjdnjmlamfdbaaXFnInversesx3
import Derived.Test.YthjdnjmlamfdbaaXFnInversesx4
namespace Go.Proofs.Ythjdnjmlamfdbaa.XFnInverses
open Go.RowKit Go.Proofs.YthjdnjmlamfdbaaW.PrintWords Go.Proofs.YthjdnjmlamfdbaaW.PrintLast Go.Proofs.YthjdnjmlamfdbaaW.PrintMore
attribute [local go_sem] max2_int min2_int max_two min_two max_three min_three max_four min_four   -- for this text's walks alone
set_option linter.unusedVariables false
set_option linter.unusedSimpArgs false

/-! ### spec_InvM: function 32 -/
mutual
def spec_InvM.j0 : Nat → List (List Int) → Bool → Option ((List (List Int)) × Bool)
 | 0, _, _ => none
 | k + 1, x0, x26 => if x26 = true then (some ((([] : List (List Int))), false)) else (spec_InvM.l0 k x0 (x0.length : Int) (([] : List (List Int))) 0)
def spec_InvM.l0 : Nat → List (List Int) → Int → List (List Int) → Int → Option ((List (List Int)) × Bool)
 | 0, _, _, _, _ => none
 | k + 1, x0, x4, x5, x6 => if x6 < x4 then ((some (([] : List Int) : List Int)).bind fun y247 => (if 0 ≤ x6 then (if x6 < (x0.length : Int) then (if y247.length + (rd_L2 x0 x6).length < 17592186044416 then (if x5.length < 5864062014805 then (spec_InvM.l0 k x0 x4 (x5 ++ [(y247 ++ (rd_L2 x0 x6))]) (wrap64 (x6 + 1))) else (none)) else (none)) else (none)) else (none))) else ((spec_OneM.f k x4).bind fun t257 => (spec_InvM.l1 k x4 x5 t257 0))
def spec_InvM.l1 : Nat → Int → List (List Int) → List (List Int) → Int → Option ((List (List Int)) × Bool)
 | 0, _, _, _, _ => none
 | k + 1, x4, x5, x7, x8 => if x8 < x4 then (spec_InvM.l2 k x4 x5 x7 x8 x8) else (some (x7, true))
def spec_InvM.j4 : Nat → Int → List (List Int) → List (List Int) → Int → Int → Option ((List (List Int)) × Bool)
 | 0, _, _, _, _, _ => none
 | k + 1, x4, x5, x7, x8, x9 => if x9 = x4 then (some ((([] : List (List Int))), false)) else (if 0 ≤ x9 then (if x9 < (x5.length : Int) then (if 0 ≤ x8 then (if x8 < (x5.length : Int) then ((some ((x5.set (x9 : Int).toNat (rd_L2 x5 x8)).set (x8 : Int).toNat (rd_L2 x5 x9) : List (List Int))).bind fun y268 => (if x9 < (x7.length : Int) then (if x8 < (x7.length : Int) then ((some ((x7.set (x9 : Int).toNat (rd_L2 x7 x8)).set (x8 : Int).toNat (rd_L2 x7 x9) : List (List Int))).bind fun y272 => (if x8 < ((rd_L2 y268 x8).length : Int) then ((spec_InvG.f k (rd (rd_L2 y268 x8) x8)).bind fun t275 => ((spec_l06Times.f k (rd_L2 y268 x8) t275).bind fun t277 => ((spec_l06Times.f k (rd_L2 y272 x8) t275).bind fun t282 => (spec_InvM.l3 k x4 (y268.set (x8 : Int).toNat t277) (y272.set (x8 : Int).toNat t282) x8 0)))) else (none))) else (none)) else (none))) else (none)) else (none)) else (none)) else (none))
def spec_InvM.l3 : Nat → Int → List (List Int) → List (List Int) → Int → Int → Option ((List (List Int)) × Bool)
 | 0, _, _, _, _, _ => none
 | k + 1, x4, x5, x7, x8, x13 => if x13 < x4 then (if x13 = x8 then (spec_InvM.j6 k x4 x5 x7 x8 x13 false) else (if 0 ≤ x13 then (if x13 < (x5.length : Int) then (if 0 ≤ x8 then (if x8 < ((rd_L2 x5 x13).length : Int) then (spec_InvM.j6 k x4 x5 x7 x8 x13 ((rd (rd_L2 x5 x13) x8) != 0)) else (none)) else (none)) else (none)) else (none))) else (spec_InvM.l1 k x4 x5 x7 (wrap64 (x8 + 1)))
def spec_InvM.j6 : Nat → Int → List (List Int) → List (List Int) → Int → Int → Bool → Option ((List (List Int)) × Bool)
 | 0, _, _, _, _, _, _ => none
 | k + 1, x4, x5, x7, x8, x13, x145 => if x145 = true then (if 0 ≤ x13 then (if x13 < (x5.length : Int) then (if 0 ≤ x8 then (if x8 < ((rd_L2 x5 x13).length : Int) then (if x8 < (x5.length : Int) then ((spec_l06Row.f k (rd_L2 x5 x13) (rd_L2 x5 x8) (rd (rd_L2 x5 x13) x8)).bind fun t292 => (if x13 < (x7.length : Int) then (if x8 < (x7.length : Int) then ((spec_l06Row.f k (rd_L2 x7 x13) (rd_L2 x7 x8) (rd (rd_L2 x5 x13) x8)).bind fun t298 => (spec_InvM.l3 k x4 (x5.set (x13 : Int).toNat t292) (x7.set (x13 : Int).toNat t298) x8 (wrap64 (x13 + 1)))) else (none)) else (none))) else (none)) else (none)) else (none)) else (none)) else (none)) else (spec_InvM.l3 k x4 x5 x7 x8 (wrap64 (x13 + 1)))
def spec_InvM.l2 : Nat → Int → List (List Int) → List (List Int) → Int → Int → Option ((List (List Int)) × Bool)
 | 0, _, _, _, _, _ => none
 | k + 1, x4, x5, x7, x8, x9 => if x9 < x4 then (if 0 ≤ x9 then (if x9 < (x5.length : Int) then (if 0 ≤ x8 then (if x8 < ((rd_L2 x5 x9).length : Int) then (if (rd (rd_L2 x5 x9) x8) = 0 then (spec_InvM.l2 k x4 x5 x7 x8 (wrap64 (x9 + 1))) else (spec_InvM.j4 k x4 x5 x7 x8 x9)) else (none)) else (none)) else (none)) else (none)) else (spec_InvM.j4 k x4 x5 x7 x8 x9)
end
def spec_InvM.f (k : Nat) (l0 : List (List Int)) : Option ((List (List Int)) × Bool) := (spec_MatrixOk.f k l0).bind fun t239 => (if t239 = true then (if 0 < (l0.length : Int) then (spec_InvM.j0 k l0 ((l0.length : Int) != ((rd_L2 l0 0).length : Int))) else (none)) else (spec_InvM.j0 k l0 true))
theorem spec_InvM.mono_l : ∀ k, (∀ y0 y1, LeO (spec_InvM.j0 k y0 y1) (spec_InvM.j0 (k + 1) y0 y1)) ∧ (∀ y0 y1 y2 y3, LeO (spec_InvM.l0 k y0 y1 y2 y3) (spec_InvM.l0 (k + 1) y0 y1 y2 y3)) ∧ (∀ y0 y1 y2 y3, LeO (spec_InvM.l1 k y0 y1 y2 y3) (spec_InvM.l1 (k + 1) y0 y1 y2 y3)) ∧ (∀ y0 y1 y2 y3 y4, LeO (spec_InvM.j4 k y0 y1 y2 y3 y4) (spec_InvM.j4 (k + 1) y0 y1 y2 y3 y4)) ∧ (∀ y0 y1 y2 y3 y4, LeO (spec_InvM.l3 k y0 y1 y2 y3 y4) (spec_InvM.l3 (k + 1) y0 y1 y2 y3 y4)) ∧ (∀ y0 y1 y2 y3 y4 y5, LeO (spec_InvM.j6 k y0 y1 y2 y3 y4 y5) (spec_InvM.j6 (k + 1) y0 y1 y2 y3 y4 y5)) ∧ (∀ y0 y1 y2 y3 y4, LeO (spec_InvM.l2 k y0 y1 y2 y3 y4) (spec_InvM.l2 (k + 1) y0 y1 y2 y3 y4))
 | 0 => ⟨fun _ _ r h => by simp [spec_InvM.j0] at h, fun _ _ _ _ r h => by simp [spec_InvM.l0] at h, fun _ _ _ _ r h => by simp [spec_InvM.l1] at h, fun _ _ _ _ _ r h => by simp [spec_InvM.j4] at h, fun _ _ _ _ _ r h => by simp [spec_InvM.l3] at h, fun _ _ _ _ _ _ r h => by simp [spec_InvM.j6] at h, fun _ _ _ _ _ r h => by simp [spec_InvM.l2] at h⟩
 | k + 1 => by
  obtain ⟨ih0, ih1, ih2, ih3, ih4, ih5, ih6⟩ := spec_InvM.mono_l k
  refine ⟨?_, ?_, ?_, ?_, ?_, ?_, ?_⟩
  ·intro y0 y1
   unfold spec_InvM.j0
   repeat' first
   | (with_reducible exact ih0 _ _)
   | (with_reducible exact ih1 _ _ _ _)
   | (with_reducible exact ih2 _ _ _ _)
   | (with_reducible exact ih3 _ _ _ _ _)
   | (with_reducible exact ih4 _ _ _ _ _)
   | (with_reducible exact ih5 _ _ _ _ _ _)
   | (with_reducible exact ih6 _ _ _ _ _)
   | (with_reducible exact spec_InvG.mono _ _)
   | (with_reducible exact spec_MatrixOk.mono _ _)
   | (with_reducible exact spec_OneM.mono _ _)
   | (with_reducible exact spec_l06Row.mono _ _ _ _)
   | (with_reducible exact spec_l06Times.mono _ _ _)
   | (with_reducible exact LeO.refl _)
   | (with_reducible exact LeO.none _)
   | (with_reducible refine LeO.ite ?_ ?_)
   | (with_reducible refine LeO.bind ?_ (fun _ => ?_))
   | exact ih0 _ _
   | exact ih1 _ _ _ _
   | exact ih2 _ _ _ _
   | exact ih3 _ _ _ _ _
   | exact ih4 _ _ _ _ _
   | exact ih5 _ _ _ _ _ _
   | exact ih6 _ _ _ _ _
   | exact spec_InvG.mono _ _
   | exact spec_MatrixOk.mono _ _
   | exact spec_OneM.mono _ _
   | exact spec_l06Row.mono _ _ _ _
   | exact spec_l06Times.mono _ _ _
   | exact LeO.none _
   | refine LeO.ite ?_ ?_
   | refine LeO.bind ?_ (fun _ => ?_)
  ·intro y0 y1 y2 y3
   unfold spec_InvM.l0
   repeat' first
   | (with_reducible exact ih0 _ _)
   | (with_reducible exact ih1 _ _ _ _)
   | (with_reducible exact ih2 _ _ _ _)
   | (with_reducible exact ih3 _ _ _ _ _)
   | (with_reducible exact ih4 _ _ _ _ _)
   | (with_reducible exact ih5 _ _ _ _ _ _)
   | (with_reducible exact ih6 _ _ _ _ _)
   | (with_reducible exact spec_InvG.mono _ _)
   | (with_reducible exact spec_MatrixOk.mono _ _)
   | (with_reducible exact spec_OneM.mono _ _)
   | (with_reducible exact spec_l06Row.mono _ _ _ _)
   | (with_reducible exact spec_l06Times.mono _ _ _)
   | (with_reducible exact LeO.refl _)
   | (with_reducible exact LeO.none _)
   | (with_reducible refine LeO.ite ?_ ?_)
   | (with_reducible refine LeO.bind ?_ (fun _ => ?_))
   | exact ih0 _ _
   | exact ih1 _ _ _ _
   | exact ih2 _ _ _ _
   | exact ih3 _ _ _ _ _
   | exact ih4 _ _ _ _ _
   | exact ih5 _ _ _ _ _ _
   | exact ih6 _ _ _ _ _
   | exact spec_InvG.mono _ _
   | exact spec_MatrixOk.mono _ _
   | exact spec_OneM.mono _ _
   | exact spec_l06Row.mono _ _ _ _
   | exact spec_l06Times.mono _ _ _
   | exact LeO.none _
   | refine LeO.ite ?_ ?_
   | refine LeO.bind ?_ (fun _ => ?_)
  ·intro y0 y1 y2 y3
   unfold spec_InvM.l1
   repeat' first
   | (with_reducible exact ih0 _ _)
   | (with_reducible exact ih1 _ _ _ _)
   | (with_reducible exact ih2 _ _ _ _)
   | (with_reducible exact ih3 _ _ _ _ _)
   | (with_reducible exact ih4 _ _ _ _ _)
   | (with_reducible exact ih5 _ _ _ _ _ _)
   | (with_reducible exact ih6 _ _ _ _ _)
   | (with_reducible exact spec_InvG.mono _ _)
   | (with_reducible exact spec_MatrixOk.mono _ _)
   | (with_reducible exact spec_OneM.mono _ _)
   | (with_reducible exact spec_l06Row.mono _ _ _ _)
   | (with_reducible exact spec_l06Times.mono _ _ _)
   | (with_reducible exact LeO.refl _)
   | (with_reducible exact LeO.none _)
   | (with_reducible refine LeO.ite ?_ ?_)
   | (with_reducible refine LeO.bind ?_ (fun _ => ?_))
   | exact ih0 _ _
   | exact ih1 _ _ _ _
   | exact ih2 _ _ _ _
   | exact ih3 _ _ _ _ _
   | exact ih4 _ _ _ _ _
   | exact ih5 _ _ _ _ _ _
   | exact ih6 _ _ _ _ _
   | exact spec_InvG.mono _ _
   | exact spec_MatrixOk.mono _ _
   | exact spec_OneM.mono _ _
   | exact spec_l06Row.mono _ _ _ _
   | exact spec_l06Times.mono _ _ _
   | exact LeO.none _
   | refine LeO.ite ?_ ?_
   | refine LeO.bind ?_ (fun _ => ?_)
  ·intro y0 y1 y2 y3 y4
   unfold spec_InvM.j4
   repeat' first
   | (with_reducible exact ih0 _ _)
   | (with_reducible exact ih1 _ _ _ _)
   | (with_reducible exact ih2 _ _ _ _)
   | (with_reducible exact ih3 _ _ _ _ _)
   | (with_reducible exact ih4 _ _ _ _ _)
   | (with_reducible exact ih5 _ _ _ _ _ _)
   | (with_reducible exact ih6 _ _ _ _ _)
   | (with_reducible exact spec_InvG.mono _ _)
   | (with_reducible exact spec_MatrixOk.mono _ _)
   | (with_reducible exact spec_OneM.mono _ _)
   | (with_reducible exact spec_l06Row.mono _ _ _ _)
   | (with_reducible exact spec_l06Times.mono _ _ _)
   | (with_reducible exact LeO.refl _)
   | (with_reducible exact LeO.none _)
   | (with_reducible refine LeO.ite ?_ ?_)
   | (with_reducible refine LeO.bind ?_ (fun _ => ?_))
   | exact ih0 _ _
   | exact ih1 _ _ _ _
   | exact ih2 _ _ _ _
   | exact ih3 _ _ _ _ _
   | exact ih4 _ _ _ _ _
   | exact ih5 _ _ _ _ _ _
   | exact ih6 _ _ _ _ _
   | exact spec_InvG.mono _ _
   | exact spec_MatrixOk.mono _ _
   | exact spec_OneM.mono _ _
   | exact spec_l06Row.mono _ _ _ _
   | exact spec_l06Times.mono _ _ _
   | exact LeO.none _
   | refine LeO.ite ?_ ?_
   | refine LeO.bind ?_ (fun _ => ?_)
  ·intro y0 y1 y2 y3 y4
   unfold spec_InvM.l3
   repeat' first
   | (with_reducible exact ih0 _ _)
   | (with_reducible exact ih1 _ _ _ _)
   | (with_reducible exact ih2 _ _ _ _)
   | (with_reducible exact ih3 _ _ _ _ _)
   | (with_reducible exact ih4 _ _ _ _ _)
   | (with_reducible exact ih5 _ _ _ _ _ _)
   | (with_reducible exact ih6 _ _ _ _ _)
   | (with_reducible exact spec_InvG.mono _ _)
   | (with_reducible exact spec_MatrixOk.mono _ _)
   | (with_reducible exact spec_OneM.mono _ _)
   | (with_reducible exact spec_l06Row.mono _ _ _ _)
   | (with_reducible exact spec_l06Times.mono _ _ _)
   | (with_reducible exact LeO.refl _)
   | (with_reducible exact LeO.none _)
   | (with_reducible refine LeO.ite ?_ ?_)
   | (with_reducible refine LeO.bind ?_ (fun _ => ?_))
   | exact ih0 _ _
   | exact ih1 _ _ _ _
   | exact ih2 _ _ _ _
   | exact ih3 _ _ _ _ _
   | exact ih4 _ _ _ _ _
   | exact ih5 _ _ _ _ _ _
   | exact ih6 _ _ _ _ _
   | exact spec_InvG.mono _ _
   | exact spec_MatrixOk.mono _ _
   | exact spec_OneM.mono _ _
   | exact spec_l06Row.mono _ _ _ _
   | exact spec_l06Times.mono _ _ _
   | exact LeO.none _
   | refine LeO.ite ?_ ?_
   | refine LeO.bind ?_ (fun _ => ?_)
  ·intro y0 y1 y2 y3 y4 y5
   unfold spec_InvM.j6
   repeat' first
   | (with_reducible exact ih0 _ _)
   | (with_reducible exact ih1 _ _ _ _)
   | (with_reducible exact ih2 _ _ _ _)
   | (with_reducible exact ih3 _ _ _ _ _)
   | (with_reducible exact ih4 _ _ _ _ _)
   | (with_reducible exact ih5 _ _ _ _ _ _)
   | (with_reducible exact ih6 _ _ _ _ _)
   | (with_reducible exact spec_InvG.mono _ _)
   | (with_reducible exact spec_MatrixOk.mono _ _)
   | (with_reducible exact spec_OneM.mono _ _)
   | (with_reducible exact spec_l06Row.mono _ _ _ _)
   | (with_reducible exact spec_l06Times.mono _ _ _)
   | (with_reducible exact LeO.refl _)
   | (with_reducible exact LeO.none _)
   | (with_reducible refine LeO.ite ?_ ?_)
   | (with_reducible refine LeO.bind ?_ (fun _ => ?_))
   | exact ih0 _ _
   | exact ih1 _ _ _ _
   | exact ih2 _ _ _ _
   | exact ih3 _ _ _ _ _
   | exact ih4 _ _ _ _ _
   | exact ih5 _ _ _ _ _ _
   | exact ih6 _ _ _ _ _
   | exact spec_InvG.mono _ _
   | exact spec_MatrixOk.mono _ _
   | exact spec_OneM.mono _ _
   | exact spec_l06Row.mono _ _ _ _
   | exact spec_l06Times.mono _ _ _
   | exact LeO.none _
   | refine LeO.ite ?_ ?_
   | refine LeO.bind ?_ (fun _ => ?_)
  ·intro y0 y1 y2 y3 y4
   unfold spec_InvM.l2
   repeat' first
   | (with_reducible exact ih0 _ _)
   | (with_reducible exact ih1 _ _ _ _)
   | (with_reducible exact ih2 _ _ _ _)
   | (with_reducible exact ih3 _ _ _ _ _)
   | (with_reducible exact ih4 _ _ _ _ _)
   | (with_reducible exact ih5 _ _ _ _ _ _)
   | (with_reducible exact ih6 _ _ _ _ _)
   | (with_reducible exact spec_InvG.mono _ _)
   | (with_reducible exact spec_MatrixOk.mono _ _)
   | (with_reducible exact spec_OneM.mono _ _)
   | (with_reducible exact spec_l06Row.mono _ _ _ _)
   | (with_reducible exact spec_l06Times.mono _ _ _)
   | (with_reducible exact LeO.refl _)
   | (with_reducible exact LeO.none _)
   | (with_reducible refine LeO.ite ?_ ?_)
   | (with_reducible refine LeO.bind ?_ (fun _ => ?_))
   | exact ih0 _ _
   | exact ih1 _ _ _ _
   | exact ih2 _ _ _ _
   | exact ih3 _ _ _ _ _
   | exact ih4 _ _ _ _ _
   | exact ih5 _ _ _ _ _ _
   | exact ih6 _ _ _ _ _
   | exact spec_InvG.mono _ _
   | exact spec_MatrixOk.mono _ _
   | exact spec_OneM.mono _ _
   | exact spec_l06Row.mono _ _ _ _
   | exact spec_l06Times.mono _ _ _
   | exact LeO.none _
   | refine LeO.ite ?_ ?_
   | refine LeO.bind ?_ (fun _ => ?_)
theorem spec_InvM.mono : ∀ a0 k, LeO (spec_InvM.f k a0) (spec_InvM.f (k + 1) a0) := by
 intro a0 k
 obtain ⟨ih0, ih1, ih2, ih3, ih4, ih5, ih6⟩ := spec_InvM.mono_l k
 unfold spec_InvM.f
 repeat' first
   | (with_reducible exact ih0 _ _)
   | (with_reducible exact ih1 _ _ _ _)
   | (with_reducible exact ih2 _ _ _ _)
   | (with_reducible exact ih3 _ _ _ _ _)
   | (with_reducible exact ih4 _ _ _ _ _)
   | (with_reducible exact ih5 _ _ _ _ _ _)
   | (with_reducible exact ih6 _ _ _ _ _)
   | (with_reducible exact spec_InvG.mono _ _)
   | (with_reducible exact spec_MatrixOk.mono _ _)
   | (with_reducible exact spec_OneM.mono _ _)
   | (with_reducible exact spec_l06Row.mono _ _ _ _)
   | (with_reducible exact spec_l06Times.mono _ _ _)
   | (with_reducible exact LeO.refl _)
   | (with_reducible exact LeO.none _)
   | (with_reducible refine LeO.ite ?_ ?_)
   | (with_reducible refine LeO.bind ?_ (fun _ => ?_))
   | exact ih0 _ _
   | exact ih1 _ _ _ _
   | exact ih2 _ _ _ _
   | exact ih3 _ _ _ _ _
   | exact ih4 _ _ _ _ _
   | exact ih5 _ _ _ _ _ _
   | exact ih6 _ _ _ _ _
   | exact spec_InvG.mono _ _
   | exact spec_MatrixOk.mono _ _
   | exact spec_OneM.mono _ _
   | exact spec_l06Row.mono _ _ _ _
   | exact spec_l06Times.mono _ _ _
   | exact LeO.none _
   | refine LeO.ite ?_ ?_
   | refine LeO.bind ?_ (fun _ => ?_)
def spec_InvM.T32 : Bool × List (List Nat × List Nat) := (true, [([], []), ([], []), ([], []), ([], []), ([2, 3], [2, 3]), ([4], [4]), ([], []), ([], []), ([6, 7], [6, 7]), ([8], [8]), ([], []), ([5, 9, 10], [5, 9, 10]), ([0, 1, 0, 1, 2, 3, 4, 5, 6, 7, 8, 9, 10, 11], [0, 1]), ([12, 11, 11, 0, 1, 2, 3, 4, 5, 6, 7, 8, 9, 10, 11], [11, 12])])
def spec_InvM.B32 : List Nat := [0, 0, 0, 0, 12, 28, 0, 0, 192, 448, 0, 2044, 4095, 8191]
theorem spec_InvM.tab32 : rtab .any (opsOf Try.f32 32) = spec_InvM.T32 := by kernel_rfl
theorem spec_InvM.bits32 : waitsOk spec_InvM.T32.2 spec_InvM.B32 = true := by kernel_rfl
def spec_InvM.T33 : Bool × List (List Nat × List Nat) := (true, [([], []), ([], []), ([], []), ([], []), ([2, 3], [2, 3]), ([4], [4]), ([], []), ([], []), ([6, 7], [6, 7]), ([8], [8]), ([], []), ([5, 9, 10], [5, 9, 10]), ([0, 1, 0, 1, 2, 3, 4, 5, 6, 7, 8, 9, 10, 11], [0, 1]), ([12, 11, 11, 0, 1, 2, 3, 4, 5, 6, 7, 8, 9, 10, 11], [11, 12])])
def spec_InvM.B33 : List Nat := [0, 0, 0, 0, 12, 28, 0, 0, 192, 448, 0, 2044, 4095, 8191]
theorem spec_InvM.tab33 : rtab .any (opsOf Try.f32 33) = spec_InvM.T33 := by kernel_rfl
theorem spec_InvM.bits33 : waitsOk spec_InvM.T33.2 spec_InvM.B33 = true := by kernel_rfl
set_option maxHeartbeats 8000000 in
set_option maxRecDepth 100000 in
theorem spec_InvM.calls (k : Nat) (A0 : Option Addr) (c0 : Nat) (l0 : List (List Int)) (r1 : List (List Int)) (r2 : Bool) (w : World) (hr0 : Kd.C (Kd.slice 3 (Kd.int .i64)) w A0 l0.length l0) (hc0 : l0.length ≤ c0) (h : spec_InvM.f k l0 = some (r1, r2)) :
  Calls Try.prog 32 #[.slice A0 l0.length c0] w fun e w' => ∃ v0_ : Value, e = .returned (.tuple #[v0_, .bool r2]) ∧ Kd.N (Kd.slice 3 (Kd.int .i64)) 43 w' w.heap.size (fun k_ => (w.heap.size ≤ k_)) v0_ r1 ∧ Below w.heap.size w w' := by
 have HR0 := Aside0.mk hr0
 have HC0 := Aside0.mk hc0
 clear hr0 hc0
 have HB := Aside0.mk (Below.refl w.heap.size w)
 have H : ((spec_MatrixOk.f k l0).bind fun t239 => (if t239 = true then (if 0 < (l0.length : Int) then (spec_InvM.j0 k l0 ((l0.length : Int) != ((rd_L2 l0 0).length : Int))) else (none)) else (spec_InvM.j0 k l0 true))) = some (r1, r2) := h
 clear h
 have HC2 := Aside0.mk H
 clear H
 go_enter Try.func32, Try.ntmps32
 go_upto_region 1 with (fail)
 go_cut [26] (fun v26 wc => ∃ (kq : Nat) (x26_1 : Bool), v26 = .bool x26_1 ∧ Aside0 (spec_InvM.j0 kq l0 x26_1 = some (r1, r2)) ∧ Aside0 (kq ≤ k) ∧ Aside0 (Below w.heap.size w wc))
 case first =>
  have H := HC2.out
  clear HC2
  replace H := Option.bind_eq_some_iff.mp H
  obtain ⟨t239, A30, H⟩ := H
  replace H : (if t239 = true then (if 0 < (l0.length : Int) then (spec_InvM.j0 k l0 ((l0.length : Int) != ((rd_L2 l0 0).length : Int))) else (none)) else (spec_InvM.j0 k l0 true)) = some (r1, r2) := H
  have A3 := Aside0.mk A30
  clear A30
  by_cases c4 : t239 = true
  ·subst c4
   have H1 : (if 0 < (l0.length : Int) then (spec_InvM.j0 k l0 ((l0.length : Int) != ((rd_L2 l0 0).length : Int))) else (none)) = some (r1, r2) := by rw [if_pos rfl] at H; exact H
   clear H
   have H := H1
   clear H1
   by_cases c5 : 0 < (l0.length : Int)
   ·rw [if_pos c5] at H
    have c5b0 : decide (0 < (l0.length : Int)) = true := decide_eq_true c5
    have c5b1 : decide (0 < l0.length) = true := decide_eq_true (by omega)
    clear c5
    (first | rw [c5b0] | (simp only [i64_w, i32_w]; rw [c5b0]) | rw [c5b1] | skip)
    have H' := Aside0.mk H
    clear H
    go_wp2_with (first | ((with_reducible refine gate_callee (f := 12) rfl ?_); refine goesL_ (some 16) rfl rfl Try.func12 (by kernel_rfl) rfl #[.slice A0 l0.length c0] rfl (by (try simp only [List.map_toArray, List.map_cons, List.map_nil]); first | done | rfl) ?_; (with_reducible refine (spec_MatrixOk.calls k _ _ l0 true _ ?side1 ?side2 A3.out).mono ?_); (case side1 => repeat (first | exact (Kd.C_below HR0.out HB.out) | (with_reducible refine Kd.C_alloc ?_ _) | (with_reducible refine Kd.C_drewN ?_ _) | (with_reducible refine Kd.C_drew ?_))); (case side2 => exact HC0.out); rintro e w' ⟨rfl, ⟨nd, rfl⟩⟩; refine ⟨_, rfl, ?_⟩; have p240 : 0 ≤ (0 : Int) := (by omega); have q240 : 0 < (l0.length : Int) := of_decide_eq_true (by assumption); obtain ⟨ad240, A240_0, c240_0, e240, hx240_0, hl240_0, hi240_0⟩ := at_L2 HR0.out 0 p240 q240; cases e240; have qi240 : (0 < l0.length) = True := eq_true (by omega); (try rw [show ((0 : Int)).toNat = 0 from rfl] at hx240_0); (try rw [Addr.add_zero'] at hx240_0); replace hx240_0 := (HB.out.cell (World.block_lt_of_cell? w _ hx240_0)).trans hx240_0; have HR240_0 := Aside0.mk hi240_0; have HC240_0 := Aside0.mk hl240_0; clear hi240_0 hl240_0; replace p240 := eq_true p240; replace q240 := eq_true q240))
    go_meet
    case rel => exact ⟨_, (((l0.length : Int) != ((rd_L2 l0 0).length : Int))), (by first | rfl | (simp; done) | (simp [*]; done)), H', ⟨by first | omega | exact Nat.le_refl _⟩, ⟨by repeat (first | exact HB.out | apply below_alloc | apply pw_below_drewN | apply below_drew1)⟩⟩
   ·rw [if_neg c5] at H
    exact absurd H (by simp)
  ·replace c4 := Bool.eq_false_iff.mpr c4
   subst c4
   have H1 : (spec_InvM.j0 k l0 true) = some (r1, r2) := by rw [if_neg (show ¬ (false = true) by decide)] at H; exact H
   clear H
   have H := H1
   clear H1
   have H' := Aside0.mk H
   clear H
   go_wp2_with (first | ((with_reducible refine gate_callee (f := 12) rfl ?_); refine goesL_ (some 16) rfl rfl Try.func12 (by kernel_rfl) rfl #[.slice A0 l0.length c0] rfl (by (try simp only [List.map_toArray, List.map_cons, List.map_nil]); first | done | rfl) ?_; (with_reducible refine (spec_MatrixOk.calls k _ _ l0 false _ ?side1 ?side2 A3.out).mono ?_); (case side1 => repeat (first | exact (Kd.C_below HR0.out HB.out) | (with_reducible refine Kd.C_alloc ?_ _) | (with_reducible refine Kd.C_drewN ?_ _) | (with_reducible refine Kd.C_drew ?_))); (case side2 => exact HC0.out); rintro e w' ⟨rfl, ⟨nd, rfl⟩⟩; refine ⟨_, rfl, ?_⟩))
   go_meet
   case rel => exact ⟨_, (true), (by first | rfl | (simp; done) | (simp [*]; done)), H', ⟨by first | omega | exact Nat.le_refl _⟩, ⟨by repeat (first | exact HB.out | apply below_alloc | apply pw_below_drewN | apply below_drew1)⟩⟩
 case rest =>
  clear HC2
  try clear c1; try clear c2; try clear p2; try clear q2; try clear hx2; try clear qi2; try clear c3; try clear c4; try clear c5; try clear c5b0; try clear c5b1; try clear hx240_0; try clear p240; try clear q240
  obtain ⟨kq, x26_1, rfl, HA, HJ1, HB⟩ := hcut
  cases kq with
  | zero => exact absurd HA.out (by simp [spec_InvM.j0])
  | succ kj1 =>
   have H := HA.out
   clear HA
   simp only [spec_InvM.j0] at H
   by_cases c6 : x26_1 = true
   ·subst c6
    have H1 : (some ((([] : List (List Int))), false)) = some (r1, r2) := by rw [if_pos rfl] at H; exact H
    clear H
    have H := H1
    clear H1
    obtain ⟨y241, hy241⟩ : ∃ y_ : List (List Int), y_ = (([] : List (List Int))) := ⟨_, rfl⟩
    replace H : (some (y241, false)) = some (r1, r2) := by first | (rw [hy241]; with_reducible exact H) | (have H2_ := (Option.bind_some _ _).symm.trans H; rw [hy241]; with_reducible exact H2_) | (have H2_ := (Option.bind_some _ _).symm.trans H; with_reducible exact H2_) | with_reducible exact H | (rw [hy241]; exact H) | exact H
    have Ny241 := Aside0.mk hy241
    clear hy241
    simp only [Option.some.injEq, Prod.mk.injEq] at H
    obtain ⟨rfl, rfl⟩ := H
    go_wp2_with (first | ((with_reducible refine gate_dst (N := 27) rfl ?_); (try (refine gate_guard (by rfl) ?_; dsimp only)); refine Kd.N_lit (Kd.slice 3 (Kd.int .i64)) _ 43 ?hg (N' := 27) ?hd (xs := ([] : List (List Int))) (inner := []) (ok := (fun k_ => (w.heap.size ≤ k_))) (okp := (fun k_ => (w.heap.size ≤ k_))) ?hr ?hp (fun _ hk => hk) ((show ∀ k_, wc.heap.size ≤ k_ → (fun k_ => (w.heap.size ≤ k_)) k_ from fun k_ hk => (Nat.le_trans (below_size (by repeat (first | exact HB.out | apply below_alloc | apply pw_below_drewN | apply below_drew1))) hk)) _ (Nat.le_refl _)) (Below.refl _ _) (Nat.le_refl _) (by simp) ?_; (case hd => rfl); (case hg => rfl); (case hr => first | (go_simp; done) | (go_simp; rfl)); (case hp => exact (Reps.none _ _)); intro v242 w7 ho8 hb hg_ hnew_; clear hg_ hnew_; (first | rw [← Ny241.out] at ho8 | (simp only [Int.reduceToNat] at ho8; rw [← Ny241.out] at ho8)); have n0_ := Aside0.mk (Kd.N_lower ho8 (below_size (by repeat (first | exact HB.out | apply below_alloc | apply pw_below_drewN | apply below_drew1)))); have n1_ := Aside0.mk (below_step (by repeat (first | exact HB.out | apply below_alloc | apply pw_below_drewN | apply below_drew1)) hb); clear HB; have HO243 := n0_; have HB := n1_; clear n0_ n1_; clear hb ho8))
    go_ret2
    exact ⟨_, by first | rfl | (simp [errW_none, errW_some] <;> rfl) | (simp [*, errW_none, errW_some] <;> rfl), by (with_reducible repeat (first | apply Kd.N_alloc | apply Kd.N_drewN | apply Kd.N_drew)); exact HO243.out, by repeat (first | exact HB.out | apply below_alloc | apply pw_below_drewN | apply below_drew1)⟩
   ·replace c6 := Bool.eq_false_iff.mpr c6
    subst c6
    have H1 : (spec_InvM.l0 kj1 l0 (l0.length : Int) (([] : List (List Int))) 0) = some (r1, r2) := by rw [if_neg (show ¬ (false = true) by decide)] at H; exact H
    clear H
    have H := H1
    clear H1
    obtain ⟨y244, hy244⟩ : ∃ y_ : List (List Int), y_ = (([] : List (List Int))) := ⟨_, rfl⟩
    replace H : (spec_InvM.l0 kj1 l0 (l0.length : Int) y244 0) = some (r1, r2) := by first | (rw [hy244]; with_reducible exact H) | (have H2_ := (Option.bind_some _ _).symm.trans H; rw [hy244]; with_reducible exact H2_) | (have H2_ := (Option.bind_some _ _).symm.trans H; with_reducible exact H2_) | with_reducible exact H | (rw [hy244]; exact H) | exact H
    have Ny244 := Aside0.mk hy244
    clear hy244
    have H' := Aside0.mk H
    clear H
    go_wp2_with (first | ((with_reducible refine gate_dst (N := 30) rfl ?_); (try (refine gate_guard (by rfl) ?_; dsimp only)); refine Kd.N_lit (Kd.slice 3 (Kd.int .i64)) _ 43 ?hg (N' := 30) ?hd (xs := ([] : List (List Int))) (inner := []) (ok := (fun k_ => (w.heap.size ≤ k_))) (okp := (fun k_ => (w.heap.size ≤ k_))) ?hr ?hp (fun _ hk => hk) ((show ∀ k_, wc.heap.size ≤ k_ → (fun k_ => (w.heap.size ≤ k_)) k_ from fun k_ hk => (Nat.le_trans (below_size (by repeat (first | exact HB.out | apply below_alloc | apply pw_below_drewN | apply below_drew1))) hk)) _ (Nat.le_refl _)) (Below.refl _ _) (Nat.le_refl _) (by simp) ?_; (case hd => rfl); (case hg => rfl); (case hr => first | (go_simp; done) | (go_simp; rfl)); (case hp => exact (Reps.none _ _)); intro v245 w9 ho10 hb hg_ hnew_; clear hg_ hnew_; (first | rw [← Ny244.out] at ho10 | (simp only [Int.reduceToNat] at ho10; rw [← Ny244.out] at ho10)); have n0_ := Aside0.mk (Kd.N_lower ho10 (below_size (by repeat (first | exact HB.out | apply below_alloc | apply pw_below_drewN | apply below_drew1)))); have n1_ := Aside0.mk (below_step (by repeat (first | exact HB.out | apply below_alloc | apply pw_below_drewN | apply below_drew1)) hb); clear HB; have HO246 := n0_; have HB := n1_; clear n0_ n1_; clear hb ho10))
    go_loopg [5, 6] kj1 (fun kq v5 v6 w' => ∃ (x5_2 : List (List Int)) (x6_2 : Int), v6 = .int .i64 x6_2 ∧ Aside0 (spec_InvM.l0 kq l0 (l0.length : Int) x5_2 x6_2 = some (r1, r2)) ∧ Aside0 (kq ≤ kj1) ∧ Aside0 (Kd.N (Kd.slice 3 (Kd.int .i64)) 43 w' w.heap.size (fun k_ => (w.heap.size ≤ k_)) v5 x5_2) ∧ Aside0 (Below w.heap.size w w'))
    case atStart => exact ⟨(y244), (0), (by first | rfl | (simp; done) | (simp [*]; done)), H', ⟨Nat.le_refl _⟩, ⟨by (with_reducible repeat (first | apply Kd.N_alloc | apply Kd.N_drewN | apply Kd.N_drew)); exact HO246.out⟩, ⟨by repeat (first | exact HB.out | apply below_alloc | apply pw_below_drewN | apply below_drew1)⟩⟩
    case round =>
     clear H'
     try clear c1; try clear c2; try clear p2; try clear q2; try clear hx2; try clear qi2; try clear c3; try clear c4; try clear c5; try clear c5b0; try clear c5b1; try clear c6; try clear hx240_0; try clear p2; try clear p240; try clear q2; try clear q240
     obtain ⟨x5_2, x6_2, rfl, HA, HK2, HO_5, HB⟩ := hrel
     cases gk with
     | zero => exact absurd HA.out (by simp [spec_InvM.l0])
     | succ k2 =>
      have H := HA.out
      clear HA
      simp only [spec_InvM.l0] at H
      by_cases c11 : x6_2 < (l0.length : Int)
      ·rw [if_pos c11] at H
       have c11b0 : decide (x6_2 < (l0.length : Int)) = true := decide_eq_true c11
       clear c11
       obtain ⟨y247, hy247⟩ : ∃ y_ : List Int, y_ = (([] : List Int)) := ⟨_, rfl⟩
       replace H : (if 0 ≤ x6_2 then (if x6_2 < (l0.length : Int) then (if y247.length + (rd_L2 l0 x6_2).length < 17592186044416 then (if x5_2.length < 5864062014805 then (spec_InvM.l0 k2 l0 (l0.length : Int) (x5_2 ++ [(y247 ++ (rd_L2 l0 x6_2))]) (wrap64 (x6_2 + 1))) else (none)) else (none)) else (none)) else (none)) = some (r1, r2) := by first | (rw [hy247]; with_reducible exact H) | (have H2_ := (Option.bind_some _ _).symm.trans H; rw [hy247]; with_reducible exact H2_) | (have H2_ := (Option.bind_some _ _).symm.trans H; with_reducible exact H2_) | with_reducible exact H | (rw [hy247]; exact H) | exact H
       have Ny247 := Aside0.mk hy247
       clear hy247
       by_cases c12 : 0 ≤ x6_2
       ·rw [if_pos c12] at H
        have c12b0 : decide (0 ≤ x6_2) = true := decide_eq_true c12
        clear c12
        by_cases c13 : x6_2 < (l0.length : Int)
        ·rw [if_pos c13] at H
         have c13b0 : decide (x6_2 < (l0.length : Int)) = true := decide_eq_true c13
         clear c13
         by_cases c14 : y247.length + (rd_L2 l0 x6_2).length < 17592186044416
         ·rw [if_pos c14] at H
          have LMc14 := Aside0.mk c14
          clear c14
          obtain ⟨y251, hy251⟩ : ∃ y_ : List Int, y_ = (y247 ++ (rd_L2 l0 x6_2)) := ⟨_, rfl⟩
          replace H : (if x5_2.length < 5864062014805 then (spec_InvM.l0 k2 l0 (l0.length : Int) (x5_2 ++ [y251]) (wrap64 (x6_2 + 1))) else (none)) = some (r1, r2) := by first | (rw [hy251]; with_reducible exact H) | (have H2_ := (Option.bind_some _ _).symm.trans H; rw [hy251]; with_reducible exact H2_) | (have H2_ := (Option.bind_some _ _).symm.trans H; with_reducible exact H2_) | with_reducible exact H | (rw [hy251]; exact H) | exact H
          have Ny251 := Aside0.mk hy251
          clear hy251
          by_cases c15 : x5_2.length < 5864062014805
          ·rw [if_pos c15] at H
           have LMc15 := Aside0.mk c15
           clear c15
           obtain ⟨y254, hy254⟩ : ∃ y_ : List (List Int), y_ = (x5_2 ++ [y251]) := ⟨_, rfl⟩
           replace H : (spec_InvM.l0 k2 l0 (l0.length : Int) y254 (wrap64 (x6_2 + 1))) = some (r1, r2) := by first | (rw [hy254]; with_reducible exact H) | (have H2_ := (Option.bind_some _ _).symm.trans H; rw [hy254]; with_reducible exact H2_) | (have H2_ := (Option.bind_some _ _).symm.trans H; with_reducible exact H2_) | with_reducible exact H | (rw [hy254]; exact H) | exact H
           have Ny254 := Aside0.mk hy254
           clear hy254
           have H' := Aside0.mk H
           clear H
           go_wp2_with (first | ((with_reducible refine gate_dst (N := 37) rfl ?_); (try (refine gate_guard (by rfl) ?_; dsimp only)); refine Kd.R_lit (Kd.int .i64) _ 3 ?hg (N := 37) ?hd (xs := ([] : List Int)) (inner := []) (ok := fun _ => True) (okp := fun _ => True) ?hr ?hp (fun _ hk => hk) trivial (Below.refl _ _) (Nat.le_refl _) (by simp) ?_; (case hd => rfl); (case hg => rfl); (case hr => first | (go_simp; done) | (go_simp; rfl)); (case hp => exact (Reps.none _ _)); intro v248 w16 ho17 hb hg_ hnew_; clear hg_ hnew_; (first | rw [← Ny247.out] at ho17 | (simp only [Int.reduceToNat] at ho17; rw [← Ny247.out] at ho17)); have n0_ := Aside0.mk (Kd.N_elder' (by (with_reducible repeat (first | apply Kd.N_alloc | apply Kd.N_drewN | apply Kd.N_drew)); exact HO_5.out) (Kd.R_base ho17) hb); have n1_ := Aside0.mk (Kd.R_lower (Kd.R_newM (M := fun k_ => (w.heap.size ≤ k_)) ho17 (below_size (by repeat (first | exact HB.out | apply below_alloc | apply pw_below_drewN | apply below_drew1))) (fun k_ h_ => h_)) (below_size (by repeat (first | exact HB.out | apply below_alloc | apply pw_below_drewN | apply below_drew1)))); have n2_ := Aside0.mk (below_step (by repeat (first | exact HB.out | apply below_alloc | apply pw_below_drewN | apply below_drew1)) hb); clear HO_5; clear HB; have HO_5 := n0_; have HO249 := n1_; have HB := n2_; clear n0_ n1_ n2_; clear hb ho17; have p250 : 0 ≤ (x6_2 : Int) := of_decide_eq_true (by assumption); have q250 : x6_2 < (l0.length : Int) := of_decide_eq_true (by assumption); obtain ⟨ad250, A250_0, c250_0, e250, hx250_0, hl250_0, hi250_0⟩ := at_L2 HR0.out x6_2 p250 q250; cases e250; replace hx250_0 := (HB.out.cell (World.block_lt_of_cell? w _ hx250_0)).trans hx250_0; have HR250_0 := Aside0.mk hi250_0; have HC250_0 := Aside0.mk hl250_0; clear hi250_0 hl250_0; replace p250 := eq_true p250; replace q250 := eq_true q250) | ((with_reducible refine gate_builtin (b := .append) (xs := #[.tmp 37, .tmp 41]) rfl ?_); (try (refine gate_guard (by rfl) ?_; dsimp only)); at_builtin; refine Kd.R_append_rows (Kd.int .i64) (w0 := w) w.heap.size rfl (.tmp 37) (.tmp 41) 43 3 (.int .i64 0) 8 rfl Try.underlying43 info3 rfl (by decide) (by omega) v248 y247 (rd_L2 l0 x6_2) _ _ _ (fun k_ => (w.heap.size ≤ k_)) (fun _ => False) rfl rfl ?aO ?aR (fun _ _ h => h) (fun _ h => h.elim) ?aF ?aB ?aS ?aL ?_; (case aR => repeat (first | exact (Kd.C_below HR250_0.out HB.out) | (with_reducible refine Kd.C_alloc ?_ _) | (with_reducible refine Kd.C_drewN ?_ _) | (with_reducible refine Kd.C_drew ?_))); (case aB => exact (by repeat (first | exact HB.out | apply below_alloc | apply pw_below_drewN | apply below_drew1))); (case aF => exact (fun k_ hk => (Nat.le_trans (below_size (by repeat (first | exact HB.out | apply below_alloc | apply pw_below_drewN | apply below_drew1))) hk))); (case aO => exact (by (with_reducible repeat (first | apply Kd.R_alloc | apply Kd.R_drewN | apply Kd.R_drew)); exact Kd.R_mono HO249.out (fun _ hk => hk.1))); (case aS => exact (below_size (by repeat (first | exact HB.out | apply below_alloc | apply pw_below_drewN | apply below_drew1)))); (case aL => have := LMc14.out; omega); intro v252 w18 ho hb hg hat; rw [← Ny251.out] at ho; have n0_ := Aside0.mk (Kd.N_afterv (ok := (fun k_ => (w.heap.size ≤ k_))) (by (with_reducible repeat (first | apply Kd.N_alloc | apply Kd.N_drewN | apply Kd.N_drew)); exact HO_5.out) hg hat); have n1_ := Aside0.mk (hb); have n2_ := Aside0.mk (ho); clear HO_5; clear HB; clear HO249; have HO_5 := n0_; have HB := n1_; have HO253 := n2_; clear n0_ n1_ n2_; clear ho hb hg hat; obtain ⟨Ao20, co20, eo20⟩ := Kd.R_slice HO253.out; subst eo20) | ((with_reducible refine gate_builtin (b := .append) (xs := #[.tmp 36, .tmp 43]) rfl ?_); (try (refine gate_guard (by rfl) ?_; dsimp only)); at_builtin; refine Kd.N_append (Kd.slice 3 (Kd.int .i64)) (w0 := w) w.heap.size rfl (.tmp 36) (.tmp 43) 22 43 (.slice none 0 0) 24 rfl Try.underlying22 info43 rfl (by decide) (by omega) u5 x5_2 y251 [.slice Ao20 y251.length co20] (fun k_ => (w.heap.size ≤ k_)) (fun k_ => ((fun k_ => (w.heap.size ≤ k_))) k_ ∧ some k_ ≠ (u5 : Value).ownBlock) rfl rfl ?aP (fun _ hk => hk) ?aF ?aO ?aB ?aS ?aL ?_; (case aP => exact (Kd.FK_slice_mk (Kd.R_reads' (Kd.R_mono (ok' := (fun k_ => ((fun k_ => (w.heap.size ≤ k_))) k_ ∧ some k_ ≠ (u5 : Value).ownBlock)) (Kd.R_apart' (HO253.out) (Kd.N_typed HO_5.out) (by decide)) (fun k_ hk => ⟨hk.1, hk.2⟩))).2.1 (Kd.R_F (Kd.R_mono (ok' := (fun k_ => ((fun k_ => (w.heap.size ≤ k_))) k_ ∧ some k_ ≠ (u5 : Value).ownBlock)) (Kd.R_apart' (HO253.out) (Kd.N_typed HO_5.out) (by decide)) (fun k_ hk => ⟨hk.1, hk.2⟩))))); (case aB => exact (by repeat (first | exact HB.out | apply below_alloc | apply pw_below_drewN | apply below_drew1))); (case aF => exact (fun k_ hk => (Nat.le_trans (below_size (by repeat (first | exact HB.out | apply below_alloc | apply pw_below_drewN | apply below_drew1))) hk))); (case aO => exact (by (with_reducible repeat (first | apply Kd.N_alloc | apply Kd.N_drewN | apply Kd.N_drew)); exact Kd.N_mono HO_5.out (fun _ hk => hk.1))); (case aS => exact (below_size (by repeat (first | exact HB.out | apply below_alloc | apply pw_below_drewN | apply below_drew1)))); (case aL => have := LMc15.out; omega); intro v255 w19 ho hb hg hat; rw [← Ny254.out] at ho; have n0_ := Aside0.mk (hb); have n1_ := Aside0.mk (ho); clear HB; clear HO_5; clear HO253; have HB := n0_; have HO256 := n1_; clear n0_ n1_; clear ho hb hg hat))
           go_roundg k2
           case measure => have := HJ1.out; have := HK2.out; omega
           case rel => exact ⟨(y254), (wrap64 (x6_2 + 1)), (by first | rfl | (simp; done) | (simp [*]; done)), H', ⟨by have := HJ1.out; have := HK2.out; omega⟩, ⟨by (with_reducible repeat (first | apply Kd.N_alloc | apply Kd.N_drewN | apply Kd.N_drew)); exact HO256.out⟩, ⟨by repeat (first | exact HB.out | apply below_alloc | apply pw_below_drewN | apply below_drew1)⟩⟩
          ·rw [if_neg c15] at H
           exact absurd H (by simp)
         ·rw [if_neg c14] at H
          exact absurd H (by simp)
        ·rw [if_neg c13] at H
         exact absurd H (by simp)
       ·rw [if_neg c12] at H
        exact absurd H (by simp)
      ·rw [if_neg c11] at H
       have c11b0 : decide (x6_2 < (l0.length : Int)) = false := decide_eq_false c11
       clear c11
       replace H := Option.bind_eq_some_iff.mp H
       obtain ⟨t257, A210, H⟩ := H
       replace H : (spec_InvM.l1 k2 (l0.length : Int) x5_2 t257 0) = some (r1, r2) := H
       have A21 := Aside0.mk A210
       clear A210
       have H' := Aside0.mk H
       clear H
       go_wp2_with (first | ((with_reducible refine gate_callee (f := 34) rfl ?_); refine goesL_ (some 46) rfl rfl Try.func34 (by kernel_rfl) rfl #[.int .i64 (l0.length : Int)] rfl (by (try simp only [List.map_toArray, List.map_cons, List.map_nil]); first | done | rfl) ?_; (with_reducible refine (spec_OneM.calls k2 (l0.length : Int) t257 _ A21.out).mono ?_); rintro e w22 ⟨v258, rfl, ho0, hb⟩; refine ⟨_, rfl, ?_⟩; have n0_ := Aside0.mk (Kd.N_elder' (by (with_reducible repeat (first | apply Kd.N_alloc | apply Kd.N_drewN | apply Kd.N_drew)); exact HO_5.out) (Kd.S_base ho0) hb); have n1_ := Aside0.mk (Kd.N_lower (Kd.N_mono (ok' := fun k_ => (w.heap.size ≤ k_) ∧ some k_ ≠ (u5 : Value).ownBlock) (Kd.S_N (Kd.S_bound ho0)) (fun k_ hk_ => ⟨(Nat.le_trans (below_size (by repeat (first | exact HB.out | apply below_alloc | apply pw_below_drewN | apply below_drew1))) hk_.2.1), (Kd.fresh' (Kd.N_lt (by (with_reducible repeat (first | apply Kd.N_alloc | apply Kd.N_drewN | apply Kd.N_drew)); exact HO_5.out)) k_ hk_.2.1)⟩)) (below_size (by repeat (first | exact HB.out | apply below_alloc | apply pw_below_drewN | apply below_drew1)))); have n2_ := Aside0.mk (below_step (by repeat (first | exact HB.out | apply below_alloc | apply pw_below_drewN | apply below_drew1)) hb); clear HO_5; clear HB; have HO_5 := n0_; have HO259 := n1_; have HB := n2_; clear n0_ n1_ n2_; (try clear hb); (try clear ho0)))
       go_loopg [8] k2 (fun kq v8 w' => ∃ (x5_3 : List (List Int)) (x7_3 : List (List Int)) (x8_3 : Int), v8 = .int .i64 x8_3 ∧ Aside0 (spec_InvM.l1 kq (l0.length : Int) x5_3 x7_3 x8_3 = some (r1, r2)) ∧ Aside0 (kq ≤ k2) ∧ Aside0 (Kd.N (Kd.slice 3 (Kd.int .i64)) 43 w' w.heap.size (fun k_ => (w.heap.size ≤ k_) ∧ some k_ ≠ (v258 : Value).ownBlock) u5 x5_3) ∧ Aside0 (Kd.N (Kd.slice 3 (Kd.int .i64)) 43 w' w.heap.size (fun k_ => (w.heap.size ≤ k_) ∧ some k_ ≠ (u5 : Value).ownBlock) v258 x7_3) ∧ Aside0 (Below w.heap.size w w'))
       case atStart => exact ⟨(x5_2), (t257), (0), (by first | rfl | (simp; done) | (simp [*]; done)), H', ⟨Nat.le_refl _⟩, ⟨by (with_reducible repeat (first | apply Kd.N_alloc | apply Kd.N_drewN | apply Kd.N_drew)); exact HO_5.out⟩, ⟨by (with_reducible repeat (first | apply Kd.N_alloc | apply Kd.N_drewN | apply Kd.N_drew)); exact HO259.out⟩, ⟨by repeat (first | exact HB.out | apply below_alloc | apply pw_below_drewN | apply below_drew1)⟩⟩
       case round =>
        clear H'
        try clear c1; try clear c2; try clear p2; try clear q2; try clear hx2; try clear qi2; try clear c3; try clear c4; try clear c5; try clear c5b0; try clear c5b1; try clear c6; try clear p6; try clear c11; try clear c11b0; try clear c12; try clear c12b0; try clear c13; try clear c13b0; try clear c14; try clear c15; try clear hx240_0; try clear hx250_0; try clear p2; try clear p240; try clear p250; try clear q2; try clear q240; try clear q250
        obtain ⟨x5_3, x7_3, x8_3, rfl, HA, HK3, HO_5, HO_7, HB⟩ := hrel
        cases gk with
        | zero => exact absurd HA.out (by simp [spec_InvM.l1])
        | succ k3 =>
         have H := HA.out
         clear HA
         simp only [spec_InvM.l1] at H
         by_cases c23 : x8_3 < (l0.length : Int)
         ·rw [if_pos c23] at H
          have c23b0 : decide (x8_3 < (l0.length : Int)) = true := decide_eq_true c23
          clear c23
          have HC24 := Aside0.mk H
          clear H
          go_upto_block 4 with (fail)
          go_cut [9] (fun v9 wc => ∃ (kq : Nat) (x9_23 : Int), v9 = .int .i64 x9_23 ∧ Aside0 (spec_InvM.j4 kq (l0.length : Int) x5_3 x7_3 x8_3 x9_23 = some (r1, r2)) ∧ Aside0 (kq ≤ k3) ∧ Aside0 (Kd.N (Kd.slice 3 (Kd.int .i64)) 43 wc w.heap.size (fun k_ => (w.heap.size ≤ k_) ∧ some k_ ≠ (v258 : Value).ownBlock) u5 x5_3) ∧ Aside0 (Kd.N (Kd.slice 3 (Kd.int .i64)) 43 wc w.heap.size (fun k_ => (w.heap.size ≤ k_) ∧ some k_ ≠ (u5 : Value).ownBlock) v258 x7_3) ∧ Aside0 (Below w.heap.size w wc))
          case first =>
           have H := HC24.out
           clear HC24
           have H' := Aside0.mk H
           clear H
           go_wp2
           go_loopg [9] k3 (fun kq v9 w' => ∃ (x9_4 : Int), v9 = .int .i64 x9_4 ∧ Aside0 (spec_InvM.l2 kq (l0.length : Int) x5_3 x7_3 x8_3 x9_4 = some (r1, r2)) ∧ Aside0 (kq ≤ k3) ∧ Aside0 (Kd.N (Kd.slice 3 (Kd.int .i64)) 43 w' w.heap.size (fun k_ => (w.heap.size ≤ k_) ∧ some k_ ≠ (v258 : Value).ownBlock) u5 x5_3) ∧ Aside0 (Kd.N (Kd.slice 3 (Kd.int .i64)) 43 w' w.heap.size (fun k_ => (w.heap.size ≤ k_) ∧ some k_ ≠ (u5 : Value).ownBlock) v258 x7_3) ∧ Aside0 (Below w.heap.size w w'))
           case atStart => exact ⟨(x8_3), (by first | rfl | (simp; done) | (simp [*]; done)), H', ⟨Nat.le_refl _⟩, ⟨by (with_reducible repeat (first | apply Kd.N_alloc | apply Kd.N_drewN | apply Kd.N_drew)); exact HO_5.out⟩, ⟨by (with_reducible repeat (first | apply Kd.N_alloc | apply Kd.N_drewN | apply Kd.N_drew)); exact HO_7.out⟩, ⟨by repeat (first | exact HB.out | apply below_alloc | apply pw_below_drewN | apply below_drew1)⟩⟩
           case round =>
            clear H'
            try clear c1; try clear c2; try clear p2; try clear q2; try clear hx2; try clear qi2; try clear c3; try clear c4; try clear c5; try clear c5b0; try clear c5b1; try clear c6; try clear p6; try clear c11; try clear c11b0; try clear c12; try clear c12b0; try clear c13; try clear c13b0; try clear c14; try clear c15; try clear c23; try clear c23b0; try clear c24; try clear p24; try clear q24; try clear hx24; try clear qi24; try clear hx240_0; try clear hx250_0; try clear p2; try clear p240; try clear p250; try clear p6; try clear q2; try clear q240; try clear q250
            obtain ⟨x9_4, rfl, HA, HK4, HO_5, HO_7, HB⟩ := hrel
            cases gk with
            | zero => exact absurd HA.out (by simp [spec_InvM.l2])
            | succ k4 =>
             have H := HA.out
             clear HA
             simp only [spec_InvM.l2] at H
             by_cases c25 : x9_4 < (l0.length : Int)
             ·rw [if_pos c25] at H
              have c25b0 : decide (x9_4 < (l0.length : Int)) = true := decide_eq_true c25
              clear c25
              (first | rw [c25b0] | (simp only [i64_w, i32_w]; rw [c25b0]) | rw [c25b1] | skip)
              by_cases c26 : 0 ≤ x9_4
              ·rw [if_pos c26] at H
               have c26b0 : decide (0 ≤ x9_4) = true := decide_eq_true c26
               clear c26
               by_cases c27 : x9_4 < (x5_3.length : Int)
               ·rw [if_pos c27] at H
                have c27b0 : decide (x9_4 < (x5_3.length : Int)) = true := decide_eq_true c27
                clear c27
                by_cases c28 : 0 ≤ x8_3
                ·rw [if_pos c28] at H
                 have c28b0 : decide (0 ≤ x8_3) = true := decide_eq_true c28
                 clear c28
                 by_cases c29 : x8_3 < ((rd_L2 x5_3 x9_4).length : Int)
                 ·rw [if_pos c29] at H
                  have c29b0 : decide (x8_3 < ((rd_L2 x5_3 x9_4).length : Int)) = true := decide_eq_true c29
                  clear c29
                  by_cases c30 : (rd (rd_L2 x5_3 x9_4) x8_3) = 0
                  ·rw [if_pos c30] at H
                   have c30b0 : ((rd (rd_L2 x5_3 x9_4) x8_3) == 0) = true := beq_iff_eq.mpr c30
                   have c30b1 : ((rd (rd_L2 x5_3 x9_4) x8_3) != 0) = false := bne_eq_false_iff_eq.mpr c30
                   clear c30
                   have H' := Aside0.mk H
                   clear H
                   obtain ⟨Ao31, co31, eo31⟩ := Kd.N_slice HO_5.out
                   subst eo31
                   have p260 : 0 ≤ (x9_4 : Int) := of_decide_eq_true (by assumption)
                   have q260 : x9_4 < (x5_3.length : Int) := of_decide_eq_true (by assumption)
                   obtain ⟨ad260, A260_0, c260_0, e260, hx260_0, hl260_0, hi260_0⟩ := at_L2 (Kd.N_reads' HO_5.out).2.2 x9_4 p260 q260
                   cases e260
                   obtain ⟨ce260, hce260, hMe260, hcc260⟩ := Kd.N_get HO_5.out [] x9_4 p260 (by first | exact q260 | exact of_decide_eq_true (by assumption) | (have e_ := (Kd.N_reads' HO_5.out).1; omega))
                   obtain ⟨ua260_0, uc260_0, rfl, ul260_0, ge260_0⟩ := Kd.FK_slice_open hMe260
                   have hv260_0 := hcc260 0 _ rfl
                   rw [Nat.add_zero, show ((Kd.slice 3 (Kd.int .i64))).sz = 1 from rfl, Nat.mul_one] at hv260_0
                   replace hv260_0 := Option.some.inj (hv260_0.symm.trans hx260_0)
                   injection hv260_0 with hva_ hvn_ hvc_
                   rw [hva_] at ge260_0
                   rw [hvc_] at ul260_0
                   have HL260_0 := Aside0.mk (show Kd.V (Kd.int .i64) 3 _ w.heap.size _ _ (rd_L2 x5_3 x9_4) from Kd.V_mk ul260_0 ge260_0)
                   clear hva_ hvn_ hvc_ ge260_0 ul260_0
                   clear hcc260 hce260
                   have HR260_0 := Aside0.mk hi260_0
                   have HC260_0 := Aside0.mk hl260_0
                   clear hi260_0 hl260_0
                   replace p260 := eq_true p260
                   replace q260 := eq_true q260
                   have p261 : 0 ≤ (x8_3 : Int) := of_decide_eq_true (by assumption)
                   have q261 : x8_3 < ((rd_L2 x5_3 x9_4).length : Int) := of_decide_eq_true (by assumption)
                   obtain ⟨ad261, e261, hx261_0⟩ := Kd.at_int (by repeat (first | (with_reducible exact HR260_0.out) | (with_reducible refine Kd.C_alloc ?_ _) | (with_reducible refine Kd.C_drewN ?_ _) | (with_reducible refine Kd.C_drew ?_) | exact HR260_0.out)) x8_3 p261 q261
                   cases e261
                   replace p261 := eq_true p261
                   replace q261 := eq_true q261
                   go_wp2
                   go_roundg k4
                   case measure => have := HJ1.out; have := HK2.out; have := HK3.out; have := HK4.out; omega
                   case rel => exact ⟨(wrap64 (x9_4 + 1)), (by first | rfl | (simp; done) | (simp [*]; done)), H', ⟨by have := HJ1.out; have := HK2.out; have := HK3.out; have := HK4.out; omega⟩, ⟨by (with_reducible repeat (first | apply Kd.N_alloc | apply Kd.N_drewN | apply Kd.N_drew)); exact HO_5.out⟩, ⟨by (with_reducible repeat (first | apply Kd.N_alloc | apply Kd.N_drewN | apply Kd.N_drew)); exact HO_7.out⟩, ⟨by repeat (first | exact HB.out | apply below_alloc | apply pw_below_drewN | apply below_drew1)⟩⟩
                  ·rw [if_neg c30] at H
                   have c30b0 : ((rd (rd_L2 x5_3 x9_4) x8_3) == 0) = false := beq_eq_false_iff_ne.mpr c30
                   have c30b1 : ((rd (rd_L2 x5_3 x9_4) x8_3) != 0) = true := bne_iff_ne.mpr c30
                   have H' := Aside0.mk H
                   clear H
                   obtain ⟨Ao32, co32, eo32⟩ := Kd.N_slice HO_5.out
                   subst eo32
                   have p260 : 0 ≤ (x9_4 : Int) := of_decide_eq_true (by assumption)
                   have q260 : x9_4 < (x5_3.length : Int) := of_decide_eq_true (by assumption)
                   obtain ⟨ad260, A260_0, c260_0, e260, hx260_0, hl260_0, hi260_0⟩ := at_L2 (Kd.N_reads' HO_5.out).2.2 x9_4 p260 q260
                   cases e260
                   obtain ⟨ce260, hce260, hMe260, hcc260⟩ := Kd.N_get HO_5.out [] x9_4 p260 (by first | exact q260 | exact of_decide_eq_true (by assumption) | (have e_ := (Kd.N_reads' HO_5.out).1; omega))
                   obtain ⟨ua260_0, uc260_0, rfl, ul260_0, ge260_0⟩ := Kd.FK_slice_open hMe260
                   have hv260_0 := hcc260 0 _ rfl
                   rw [Nat.add_zero, show ((Kd.slice 3 (Kd.int .i64))).sz = 1 from rfl, Nat.mul_one] at hv260_0
                   replace hv260_0 := Option.some.inj (hv260_0.symm.trans hx260_0)
                   injection hv260_0 with hva_ hvn_ hvc_
                   rw [hva_] at ge260_0
                   rw [hvc_] at ul260_0
                   have HL260_0 := Aside0.mk (show Kd.V (Kd.int .i64) 3 _ w.heap.size _ _ (rd_L2 x5_3 x9_4) from Kd.V_mk ul260_0 ge260_0)
                   clear hva_ hvn_ hvc_ ge260_0 ul260_0
                   clear hcc260 hce260
                   have HR260_0 := Aside0.mk hi260_0
                   have HC260_0 := Aside0.mk hl260_0
                   clear hi260_0 hl260_0
                   replace p260 := eq_true p260
                   replace q260 := eq_true q260
                   have p261 : 0 ≤ (x8_3 : Int) := of_decide_eq_true (by assumption)
                   have q261 : x8_3 < ((rd_L2 x5_3 x9_4).length : Int) := of_decide_eq_true (by assumption)
                   obtain ⟨ad261, e261, hx261_0⟩ := Kd.at_int (by repeat (first | (with_reducible exact HR260_0.out) | (with_reducible refine Kd.C_alloc ?_ _) | (with_reducible refine Kd.C_drewN ?_ _) | (with_reducible refine Kd.C_drew ?_) | exact HR260_0.out)) x8_3 p261 q261
                   cases e261
                   replace p261 := eq_true p261
                   replace q261 := eq_true q261
                   go_wp2
                   go_meet
                   case rel => exact ⟨_, (x9_4), (by first | rfl | (simp; done) | (simp [*]; done)), H', ⟨by have := HJ1.out; have := HK2.out; have := HK3.out; have := HK4.out; first | omega | exact Nat.le_refl _⟩, ⟨by (with_reducible repeat (first | apply Kd.N_alloc | apply Kd.N_drewN | apply Kd.N_drew)); exact HO_5.out⟩, ⟨by (with_reducible repeat (first | apply Kd.N_alloc | apply Kd.N_drewN | apply Kd.N_drew)); exact HO_7.out⟩, ⟨by repeat (first | exact HB.out | apply below_alloc | apply pw_below_drewN | apply below_drew1)⟩⟩
                 ·rw [if_neg c29] at H
                  exact absurd H (by simp)
                ·rw [if_neg c28] at H
                 exact absurd H (by simp)
               ·rw [if_neg c27] at H
                exact absurd H (by simp)
              ·rw [if_neg c26] at H
               exact absurd H (by simp)
             ·rw [if_neg c25] at H
              have c25b0 : decide (x9_4 < (l0.length : Int)) = false := decide_eq_false c25
              clear c25
              (first | rw [c25b0] | (simp only [i64_w, i32_w]; rw [c25b0]) | rw [c25b1] | skip)
              have H' := Aside0.mk H
              clear H
              go_wp2
              go_meet
              case rel => exact ⟨_, (x9_4), (by first | rfl | (simp; done) | (simp [*]; done)), H', ⟨by have := HJ1.out; have := HK2.out; have := HK3.out; have := HK4.out; first | omega | exact Nat.le_refl _⟩, ⟨by (with_reducible repeat (first | apply Kd.N_alloc | apply Kd.N_drewN | apply Kd.N_drew)); exact HO_5.out⟩, ⟨by (with_reducible repeat (first | apply Kd.N_alloc | apply Kd.N_drewN | apply Kd.N_drew)); exact HO_7.out⟩, ⟨by repeat (first | exact HB.out | apply below_alloc | apply pw_below_drewN | apply below_drew1)⟩⟩
          case rest =>
           clear HC24
           try clear c1; try clear c2; try clear p2; try clear q2; try clear hx2; try clear qi2; try clear c3; try clear c4; try clear c5; try clear c5b0; try clear c5b1; try clear c6; try clear p6; try clear c11; try clear c11b0; try clear c12; try clear c12b0; try clear c13; try clear c13b0; try clear c14; try clear c15; try clear c23; try clear c23b0; try clear c24; try clear p24; try clear q24; try clear hx24; try clear qi24; try clear c25; try clear c25b0; try clear p25; try clear q25; try clear hx25; try clear c26; try clear c26b0; try clear p26; try clear q26; try clear hx26; try clear c27; try clear c27b0; try clear c28; try clear c28b0; try clear c29; try clear c29b0; try clear c30; try clear c30b0; try clear c30b1; try clear c32; try clear hx240_0; try clear hx250_0; try clear hx260_0; try clear hx261_0; try clear p2; try clear p24; try clear p240; try clear p250; try clear p260; try clear p261; try clear p6; try clear q2; try clear q24; try clear q240; try clear q250; try clear q260; try clear q261
           obtain ⟨kq, x9_23, rfl, HA, HJ23, HO_5, HO_7, HB⟩ := hcut
           cases kq with
           | zero => exact absurd HA.out (by simp [spec_InvM.j4])
           | succ kj23 =>
            have H := HA.out
            clear HA
            simp only [spec_InvM.j4] at H
            by_cases c33 : x9_23 = (l0.length : Int)
            ·rw [if_pos c33] at H
             have c33b0 : (x9_23 == (l0.length : Int)) = true := beq_iff_eq.mpr c33
             have c33b1 : (x9_23 != (l0.length : Int)) = false := bne_eq_false_iff_eq.mpr c33
             clear c33
             obtain ⟨y262, hy262⟩ : ∃ y_ : List (List Int), y_ = (([] : List (List Int))) := ⟨_, rfl⟩
             replace H : (some (y262, false)) = some (r1, r2) := by first | (rw [hy262]; with_reducible exact H) | (have H2_ := (Option.bind_some _ _).symm.trans H; rw [hy262]; with_reducible exact H2_) | (have H2_ := (Option.bind_some _ _).symm.trans H; with_reducible exact H2_) | with_reducible exact H | (rw [hy262]; exact H) | exact H
             have Ny262 := Aside0.mk hy262
             clear hy262
             simp only [Option.some.injEq, Prod.mk.injEq] at H
             obtain ⟨rfl, rfl⟩ := H
             go_wp2_with (first | ((with_reducible refine gate_dst (N := 71) rfl ?_); (try (refine gate_guard (by rfl) ?_; dsimp only)); refine Kd.N_lit (Kd.slice 3 (Kd.int .i64)) _ 43 ?hg (N' := 71) ?hd (xs := ([] : List (List Int))) (inner := []) (ok := (fun k_ => (w.heap.size ≤ k_) ∧ some k_ ≠ (u5 : Value).ownBlock ∧ some k_ ≠ (v258 : Value).ownBlock)) (okp := (fun k_ => (w.heap.size ≤ k_) ∧ some k_ ≠ (u5 : Value).ownBlock ∧ some k_ ≠ (v258 : Value).ownBlock)) ?hr ?hp (fun _ hk => hk) ((show ∀ k_, wc.heap.size ≤ k_ → (fun k_ => (w.heap.size ≤ k_) ∧ some k_ ≠ (u5 : Value).ownBlock ∧ some k_ ≠ (v258 : Value).ownBlock) k_ from fun k_ hk => ⟨(Nat.le_trans (below_size (by repeat (first | exact HB.out | apply below_alloc | apply pw_below_drewN | apply below_drew1))) hk), Kd.fresh' (Kd.N_lt (by (with_reducible repeat (first | apply Kd.N_alloc | apply Kd.N_drewN | apply Kd.N_drew)); exact HO_5.out)) k_ hk, Kd.fresh' (Kd.N_lt (by (with_reducible repeat (first | apply Kd.N_alloc | apply Kd.N_drewN | apply Kd.N_drew)); exact HO_7.out)) k_ hk⟩) _ (Nat.le_refl _)) (Below.refl _ _) (Nat.le_refl _) (by simp) ?_; (case hd => rfl); (case hg => rfl); (case hr => first | (go_simp; done) | (go_simp; rfl)); (case hp => exact (Reps.none _ _)); intro v263 w34 ho35 hb hg_ hnew_; clear hg_ hnew_; (first | rw [← Ny262.out] at ho35 | (simp only [Int.reduceToNat] at ho35; rw [← Ny262.out] at ho35)); have n0_ := Aside0.mk (Kd.N_elder' (by (with_reducible repeat (first | apply Kd.N_alloc | apply Kd.N_drewN | apply Kd.N_drew)); exact HO_5.out) (Kd.N_base ho35) hb); have n1_ := Aside0.mk (Kd.N_elder' (by (with_reducible repeat (first | apply Kd.N_alloc | apply Kd.N_drewN | apply Kd.N_drew)); exact HO_7.out) (Kd.N_base ho35) hb); have n2_ := Aside0.mk (Kd.N_lower ho35 (below_size (by repeat (first | exact HB.out | apply below_alloc | apply pw_below_drewN | apply below_drew1)))); have n3_ := Aside0.mk (below_step (by repeat (first | exact HB.out | apply below_alloc | apply pw_below_drewN | apply below_drew1)) hb); clear HO_5; clear HO_7; clear HB; have HO_5 := n0_; have HO_7 := n1_; have HO264 := n2_; have HB := n3_; clear n0_ n1_ n2_ n3_; clear hb ho35))
             go_ret2
             exact ⟨_, by first | rfl | (simp [errW_none, errW_some] <;> rfl) | (simp [*, errW_none, errW_some] <;> rfl), by (with_reducible repeat (first | apply Kd.N_alloc | apply Kd.N_drewN | apply Kd.N_drew)); exact Kd.N_mono HO264.out (fun _ hk => hk.1), by repeat (first | exact HB.out | apply below_alloc | apply pw_below_drewN | apply below_drew1)⟩
            ·rw [if_neg c33] at H
             have c33b0 : (x9_23 == (l0.length : Int)) = false := beq_eq_false_iff_ne.mpr c33
             have c33b1 : (x9_23 != (l0.length : Int)) = true := bne_iff_ne.mpr c33
             by_cases c36 : 0 ≤ x9_23
             ·rw [if_pos c36] at H
              have c36b0 : decide (0 ≤ x9_23) = true := decide_eq_true c36
              clear c36
              by_cases c37 : x9_23 < (x5_3.length : Int)
              ·rw [if_pos c37] at H
               have c37b0 : decide (x9_23 < (x5_3.length : Int)) = true := decide_eq_true c37
               clear c37
               by_cases c38 : 0 ≤ x8_3
               ·rw [if_pos c38] at H
                have c38b0 : decide (0 ≤ x8_3) = true := decide_eq_true c38
                clear c38
                by_cases c39 : x8_3 < (x5_3.length : Int)
                ·rw [if_pos c39] at H
                 have c39b0 : decide (x8_3 < (x5_3.length : Int)) = true := decide_eq_true c39
                 clear c39
                 obtain ⟨y267, hy267⟩ : ∃ y_ : List (List Int), y_ = (x5_3.set (x9_23 : Int).toNat (rd_L2 x5_3 x8_3)) := ⟨_, rfl⟩
                 replace H : ((some (y267.set (x8_3 : Int).toNat (rd_L2 x5_3 x9_23) : List (List Int))).bind fun y268 => (if x9_23 < (x7_3.length : Int) then (if x8_3 < (x7_3.length : Int) then ((some ((x7_3.set (x9_23 : Int).toNat (rd_L2 x7_3 x8_3)).set (x8_3 : Int).toNat (rd_L2 x7_3 x9_23) : List (List Int))).bind fun y272 => (if x8_3 < ((rd_L2 y268 x8_3).length : Int) then ((spec_InvG.f kj23 (rd (rd_L2 y268 x8_3) x8_3)).bind fun t275 => ((spec_l06Times.f kj23 (rd_L2 y268 x8_3) t275).bind fun t277 => ((spec_l06Times.f kj23 (rd_L2 y272 x8_3) t275).bind fun t282 => (spec_InvM.l3 kj23 (l0.length : Int) (y268.set (x8_3 : Int).toNat t277) (y272.set (x8_3 : Int).toNat t282) x8_3 0)))) else (none))) else (none)) else (none))) = some (r1, r2) := by first | (rw [hy267]; with_reducible exact H) | (have H2_ := (Option.bind_some _ _).symm.trans H; rw [hy267]; with_reducible exact H2_) | (have H2_ := (Option.bind_some _ _).symm.trans H; with_reducible exact H2_) | with_reducible exact H | (rw [hy267]; exact H) | exact H
                 have Ny267 := Aside0.mk hy267
                 clear hy267
                 obtain ⟨y268, hy268⟩ : ∃ y_ : List (List Int), y_ = (y267.set (x8_3 : Int).toNat (rd_L2 x5_3 x9_23)) := ⟨_, rfl⟩
                 replace H : (if x9_23 < (x7_3.length : Int) then (if x8_3 < (x7_3.length : Int) then ((some ((x7_3.set (x9_23 : Int).toNat (rd_L2 x7_3 x8_3)).set (x8_3 : Int).toNat (rd_L2 x7_3 x9_23) : List (List Int))).bind fun y272 => (if x8_3 < ((rd_L2 y268 x8_3).length : Int) then ((spec_InvG.f kj23 (rd (rd_L2 y268 x8_3) x8_3)).bind fun t275 => ((spec_l06Times.f kj23 (rd_L2 y268 x8_3) t275).bind fun t277 => ((spec_l06Times.f kj23 (rd_L2 y272 x8_3) t275).bind fun t282 => (spec_InvM.l3 kj23 (l0.length : Int) (y268.set (x8_3 : Int).toNat t277) (y272.set (x8_3 : Int).toNat t282) x8_3 0)))) else (none))) else (none)) else (none)) = some (r1, r2) := by first | (rw [hy268]; with_reducible exact H) | (have H2_ := (Option.bind_some _ _).symm.trans H; rw [hy268]; with_reducible exact H2_) | (have H2_ := (Option.bind_some _ _).symm.trans H; with_reducible exact H2_) | with_reducible exact H | (rw [hy268]; exact H) | exact H
                 have Ny268 := Aside0.mk hy268
                 clear hy268
                 by_cases c42 : x9_23 < (x7_3.length : Int)
                 ·rw [if_pos c42] at H
                  have c42b0 : decide (x9_23 < (x7_3.length : Int)) = true := decide_eq_true c42
                  clear c42
                  by_cases c43 : x8_3 < (x7_3.length : Int)
                  ·rw [if_pos c43] at H
                   have c43b0 : decide (x8_3 < (x7_3.length : Int)) = true := decide_eq_true c43
                   clear c43
                   obtain ⟨y271, hy271⟩ : ∃ y_ : List (List Int), y_ = (x7_3.set (x9_23 : Int).toNat (rd_L2 x7_3 x8_3)) := ⟨_, rfl⟩
                   replace H : ((some (y271.set (x8_3 : Int).toNat (rd_L2 x7_3 x9_23) : List (List Int))).bind fun y272 => (if x8_3 < ((rd_L2 y268 x8_3).length : Int) then ((spec_InvG.f kj23 (rd (rd_L2 y268 x8_3) x8_3)).bind fun t275 => ((spec_l06Times.f kj23 (rd_L2 y268 x8_3) t275).bind fun t277 => ((spec_l06Times.f kj23 (rd_L2 y272 x8_3) t275).bind fun t282 => (spec_InvM.l3 kj23 (l0.length : Int) (y268.set (x8_3 : Int).toNat t277) (y272.set (x8_3 : Int).toNat t282) x8_3 0)))) else (none))) = some (r1, r2) := by first | (rw [hy271]; with_reducible exact H) | (have H2_ := (Option.bind_some _ _).symm.trans H; rw [hy271]; with_reducible exact H2_) | (have H2_ := (Option.bind_some _ _).symm.trans H; with_reducible exact H2_) | with_reducible exact H | (rw [hy271]; exact H) | exact H
                   have Ny271 := Aside0.mk hy271
                   clear hy271
                   obtain ⟨y272, hy272⟩ : ∃ y_ : List (List Int), y_ = (y271.set (x8_3 : Int).toNat (rd_L2 x7_3 x9_23)) := ⟨_, rfl⟩
                   replace H : (if x8_3 < ((rd_L2 y268 x8_3).length : Int) then ((spec_InvG.f kj23 (rd (rd_L2 y268 x8_3) x8_3)).bind fun t275 => ((spec_l06Times.f kj23 (rd_L2 y268 x8_3) t275).bind fun t277 => ((spec_l06Times.f kj23 (rd_L2 y272 x8_3) t275).bind fun t282 => (spec_InvM.l3 kj23 (l0.length : Int) (y268.set (x8_3 : Int).toNat t277) (y272.set (x8_3 : Int).toNat t282) x8_3 0)))) else (none)) = some (r1, r2) := by first | (rw [hy272]; with_reducible exact H) | (have H2_ := (Option.bind_some _ _).symm.trans H; rw [hy272]; with_reducible exact H2_) | (have H2_ := (Option.bind_some _ _).symm.trans H; with_reducible exact H2_) | with_reducible exact H | (rw [hy272]; exact H) | exact H
                   have Ny272 := Aside0.mk hy272
                   clear hy272
                   by_cases c46 : x8_3 < ((rd_L2 y268 x8_3).length : Int)
                   ·rw [if_pos c46] at H
                    have c46b0 : decide (x8_3 < ((rd_L2 y268 x8_3).length : Int)) = true := decide_eq_true c46
                    clear c46
                    replace H := Option.bind_eq_some_iff.mp H
                    obtain ⟨t275, A470, H⟩ := H
                    replace H : ((spec_l06Times.f kj23 (rd_L2 y268 x8_3) t275).bind fun t277 => ((spec_l06Times.f kj23 (rd_L2 y272 x8_3) t275).bind fun t282 => (spec_InvM.l3 kj23 (l0.length : Int) (y268.set (x8_3 : Int).toNat t277) (y272.set (x8_3 : Int).toNat t282) x8_3 0))) = some (r1, r2) := H
                    have A47 := Aside0.mk A470
                    clear A470
                    replace H := Option.bind_eq_some_iff.mp H
                    obtain ⟨t277, A480, H⟩ := H
                    replace H : ((spec_l06Times.f kj23 (rd_L2 y272 x8_3) t275).bind fun t282 => (spec_InvM.l3 kj23 (l0.length : Int) (y268.set (x8_3 : Int).toNat t277) (y272.set (x8_3 : Int).toNat t282) x8_3 0)) = some (r1, r2) := H
                    have A48 := Aside0.mk A480
                    clear A480
                    obtain ⟨y280, hy280⟩ : ∃ y_ : List (List Int), y_ = (y268.set (x8_3 : Int).toNat t277) := ⟨_, rfl⟩
                    replace H : ((spec_l06Times.f kj23 (rd_L2 y272 x8_3) t275).bind fun t282 => (spec_InvM.l3 kj23 (l0.length : Int) y280 (y272.set (x8_3 : Int).toNat t282) x8_3 0)) = some (r1, r2) := by first | (rw [hy280]; with_reducible exact H) | (have H2_ := (Option.bind_some _ _).symm.trans H; rw [hy280]; with_reducible exact H2_) | (have H2_ := (Option.bind_some _ _).symm.trans H; with_reducible exact H2_) | with_reducible exact H | (rw [hy280]; exact H) | exact H
                    have Ny280 := Aside0.mk hy280
                    clear hy280
                    replace H := Option.bind_eq_some_iff.mp H
                    obtain ⟨t282, A500, H⟩ := H
                    replace H : (spec_InvM.l3 kj23 (l0.length : Int) y280 (y272.set (x8_3 : Int).toNat t282) x8_3 0) = some (r1, r2) := H
                    have A50 := Aside0.mk A500
                    clear A500
                    obtain ⟨y285, hy285⟩ : ∃ y_ : List (List Int), y_ = (y272.set (x8_3 : Int).toNat t282) := ⟨_, rfl⟩
                    replace H : (spec_InvM.l3 kj23 (l0.length : Int) y280 y285 x8_3 0) = some (r1, r2) := by first | (rw [hy285]; with_reducible exact H) | (have H2_ := (Option.bind_some _ _).symm.trans H; rw [hy285]; with_reducible exact H2_) | (have H2_ := (Option.bind_some _ _).symm.trans H; with_reducible exact H2_) | with_reducible exact H | (rw [hy285]; exact H) | exact H
                    have Ny285 := Aside0.mk hy285
                    clear hy285
                    have H' := Aside0.mk H
                    clear H
                    obtain ⟨Ao52, co52, eo52⟩ := Kd.N_slice HO_5.out
                    subst eo52
                    have p265 : 0 ≤ (x9_23 : Int) := of_decide_eq_true (by assumption)
                    have q265 : x9_23 < (x5_3.length : Int) := of_decide_eq_true (by assumption)
                    obtain ⟨ad265, A265_0, c265_0, e265, hx265_0, hl265_0, hi265_0⟩ := at_L2 (Kd.N_reads' HO_5.out).2.2 x9_23 p265 q265
                    cases e265
                    obtain ⟨ce265, hce265, hMe265, hcc265⟩ := Kd.N_get HO_5.out [] x9_23 p265 (by first | exact q265 | exact of_decide_eq_true (by assumption) | (have e_ := (Kd.N_reads' HO_5.out).1; omega))
                    obtain ⟨ua265_0, uc265_0, rfl, ul265_0, ge265_0⟩ := Kd.FK_slice_open hMe265
                    have hv265_0 := hcc265 0 _ rfl
                    rw [Nat.add_zero, show ((Kd.slice 3 (Kd.int .i64))).sz = 1 from rfl, Nat.mul_one] at hv265_0
                    replace hv265_0 := Option.some.inj (hv265_0.symm.trans hx265_0)
                    injection hv265_0 with hva_ hvn_ hvc_
                    rw [hva_] at ge265_0
                    rw [hvc_] at ul265_0
                    have HL265_0 := Aside0.mk (show Kd.V (Kd.int .i64) 3 _ w.heap.size _ _ (rd_L2 x5_3 x9_23) from Kd.V_mk ul265_0 ge265_0)
                    clear hva_ hvn_ hvc_ ge265_0 ul265_0
                    clear hcc265 hce265
                    have HR265_0 := Aside0.mk hi265_0
                    have HC265_0 := Aside0.mk hl265_0
                    clear hi265_0 hl265_0
                    replace p265 := eq_true p265
                    replace q265 := eq_true q265
                    have p266 : 0 ≤ (x8_3 : Int) := of_decide_eq_true (by assumption)
                    have q266 : x8_3 < (x5_3.length : Int) := of_decide_eq_true (by assumption)
                    obtain ⟨ad266, A266_0, c266_0, e266, hx266_0, hl266_0, hi266_0⟩ := at_L2 (Kd.N_reads' HO_5.out).2.2 x8_3 p266 q266
                    obtain rfl : ad265 = ad266 := (by injection e266)
                    obtain ⟨ce266, hce266, hMe266, hcc266⟩ := Kd.N_get HO_5.out [] x8_3 p266 (by first | exact q266 | exact of_decide_eq_true (by assumption) | (have e_ := (Kd.N_reads' HO_5.out).1; omega))
                    obtain ⟨ua266_0, uc266_0, rfl, ul266_0, ge266_0⟩ := Kd.FK_slice_open hMe266
                    have hv266_0 := hcc266 0 _ rfl
                    rw [Nat.add_zero, show ((Kd.slice 3 (Kd.int .i64))).sz = 1 from rfl, Nat.mul_one] at hv266_0
                    replace hv266_0 := Option.some.inj (hv266_0.symm.trans hx266_0)
                    injection hv266_0 with hva_ hvn_ hvc_
                    rw [hva_] at ge266_0
                    rw [hvc_] at ul266_0
                    have HL266_0 := Aside0.mk (show Kd.V (Kd.int .i64) 3 _ w.heap.size _ _ (rd_L2 x5_3 x8_3) from Kd.V_mk ul266_0 ge266_0)
                    clear hva_ hvn_ hvc_ ge266_0 ul266_0
                    clear hcc266 hce266
                    have HR266_0 := Aside0.mk hi266_0
                    have HC266_0 := Aside0.mk hl266_0
                    clear hi266_0 hl266_0
                    replace p266 := eq_true p266
                    replace q266 := eq_true q266
                    have p40 : 0 ≤ (x9_23 : Int) := of_decide_eq_true (by assumption)
                    have q40 : (x9_23 : Int) < ((x5_3.length : Int) : Int) := of_decide_eq_true (by assumption)
                    obtain ⟨go40, co40, eo40, gb40, gl40, cl40, HG40⟩ := Kd.N_form HO_5.out (by omega)
                    (first | cases eo40 | (injection eo40 with ea_ en_ ec_; (first | subst ea_ | (injection ea_ with ea_; subst ea_)); subst ec_; clear en_))
                    have GB40 := Aside0.mk gb40
                    have GG40 := Aside0.mk HG40
                    clear gb40 gl40 HG40
                    (first | simp only [add_plain] at hx265_0 | skip)
                    (first | simp only [add_plain] at hx266_0 | skip)
                    obtain ⟨ce40, hcl40, hM40, hcc40, hfr40⟩ := Kd.N_elem HO_5.out [] (x9_23 : Int) p40 q40
                    obtain ⟨ua40_0, uc40_0, rfl, ul40_0, ge40_0⟩ := Kd.FK_slice_open hM40
                    have hx40_0 := hcc40 0 _ rfl
                    have hf40_0 := hfr40 0
                    (try simp only [show ((Kd.slice 3 (Kd.int .i64))).sz = 1 from rfl, Nat.mul_one, Nat.add_zero] at hx40_0)
                    (try simp only [show ((Kd.slice 3 (Kd.int .i64))).sz = 1 from rfl, Nat.mul_one, Nat.add_zero] at hf40_0)
                    (try clear hM40); clear hcl40 hcc40 hfr40
                    replace p40 := eq_true p40
                    replace q40 := eq_true q40
                    have HX53 := Aside0.mk (show Kd.N (Kd.slice 3 (Kd.int .i64)) 43 wc w.heap.size (fun k_ => (w.heap.size ≤ k_) ∧ some k_ ≠ (v258 : Value).ownBlock) (.slice (some ⟨go40, 0, none⟩) x5_3.length co52) x5_3 from (by (with_reducible repeat (first | apply Kd.N_alloc | apply Kd.N_drewN | apply Kd.N_drew)); exact HO_5.out))
                    obtain ⟨ce53, hcl53, hM53, hcc53, hfr53⟩ := Kd.N_elem HX53.out [] (x9_23 : Int) (of_decide_eq_true (by assumption)) (by have h_ : (x9_23 : Int) < ((x5_3.length : Int) : Int) := of_decide_eq_true (by assumption); first | exact h_ | (have e_ := (Kd.N_reads' HO_5.out).1; omega) | simpa using h_)
                    obtain ⟨ua53_0, uc53_0, rfl, ul53_0, ge53_0⟩ := Kd.FK_slice_open hM53
                    have HP53 := Kd.N_seg HX53.out (x9_23 : Int) (of_decide_eq_true (by assumption)) (by have h_ : (x9_23 : Int) < ((x5_3.length : Int) : Int) := of_decide_eq_true (by assumption); first | exact h_ | (have e_ := (Kd.N_reads' HO_5.out).1; omega) | simpa using h_) (seg := [.slice A266_0 (rd_L2 x5_3 x8_3).length c266_0]) (j := 0) hcl53 hcc53 (show 1 ≤ 1 from by decide) (x' := rd_L2 x5_3 x8_3) (Kd.FK_slice_mk (Kd.V_reads' (Kd.V_mono (ok' := (fun k_ => ((fun k_ => (w.heap.size ≤ k_) ∧ some k_ ≠ (v258 : Value).ownBlock)) k_ ∧ k_ ≠ go40)) (HL266_0.out) (fun k_ hk => ⟨⟨hk.1.1, hk.1.2⟩, fun e_ => (hk.2) (by rw [e_]; rfl)⟩))).2.1 (Kd.V_F (Kd.V_mono (ok' := (fun k_ => ((fun k_ => (w.heap.size ≤ k_) ∧ some k_ ≠ (v258 : Value).ownBlock)) k_ ∧ k_ ≠ go40)) (HL266_0.out) (fun k_ hk => ⟨⟨hk.1.1, hk.1.2⟩, fun e_ => (hk.2) (by rw [e_]; rfl)⟩)))) (fun _ hk => hk)
                    have hx53_0 := hcc53 0 _ rfl
                    (try simp only [show ((Kd.slice 3 (Kd.int .i64))).sz = 1 from rfl, Nat.mul_one, Nat.add_zero] at hx53_0)
                    have hf53_0 := hfr53 0
                    (try simp only [show ((Kd.slice 3 (Kd.int .i64))).sz = 1 from rfl, Nat.mul_one, Nat.add_zero] at hf53_0)
                    (try clear hM53); clear hcl53 hcc53 hfr53
                    (try simp only [show ((Kd.slice 3 (Kd.int .i64))).sz = 1 from rfl, Nat.mul_one, Nat.add_zero] at HP53)
                    (try simp only [show ((Kd.slice 3 (Kd.int .i64))).sz = 1 from rfl, Nat.mul_one, Nat.add_zero] at HP53)
                    go_wp2_with (first | ((with_reducible refine gate_store (t := 43) (p := 82) rfl ?_); refine store_event (t := 43) (p := 82) (v := ?vo_w54) (w1 := (wc.setCell ⟨go40, (x9_23 : Int).toNat, none⟩ (.slice A266_0 (rd_L2 x5_3 x8_3).length c266_0))) ?hg ?ho ?hn ?hr ?_; (case ho => rfl); (case hg => rfl); (case hn => rfl); (case hr => first | (go_simp; done) | (go_simp; rfl)); intro w54 hw; have hg : wc.grownBy w54 (some go40) := (by rw [hw]; exact HP53.2); have hp_ : Kd.N (Kd.slice 3 (Kd.int .i64)) 43 w54 w.heap.size (fun k_ => (w.heap.size ≤ k_) ∧ some k_ ≠ (v258 : Value).ownBlock) (.slice (some ⟨go40, 0, none⟩) x5_3.length co52) y267 := (by rw [hw, Ny267.out]; exact HP53.1); clear HP53; have n0_ := Aside0.mk (hp_); have n1_ := Aside0.mk (Kd.N_afterv (v := (.slice (some ⟨go40, 0, none⟩) x5_3.length co52)) (v1 := (.slice (some ⟨go40, 0, none⟩) x5_3.length co52)) (ok := (fun k_ => (w.heap.size ≤ k_))) (by (with_reducible repeat (first | apply Kd.N_alloc | apply Kd.N_drewN | apply Kd.N_drew)); exact HO_7.out) hg (.inl rfl)); have n2_ := Aside0.mk (Kd.V_afterv (v := (.slice (some ⟨go40, 0, none⟩) x5_3.length co52)) (v1 := (.slice (some ⟨go40, 0, none⟩) x5_3.length co52)) (ok := (fun k_ => (w.heap.size ≤ k_) ∧ some k_ ≠ (v258 : Value).ownBlock)) (by (with_reducible repeat (first | apply Kd.V_alloc | apply Kd.V_drewN | apply Kd.V_drew)); exact HL265_0.out) hg (.inl rfl)); have n3_ := Aside0.mk (Kd.V_afterv (v := (.slice (some ⟨go40, 0, none⟩) x5_3.length co52)) (v1 := (.slice (some ⟨go40, 0, none⟩) x5_3.length co52)) (ok := (fun k_ => (w.heap.size ≤ k_) ∧ some k_ ≠ (v258 : Value).ownBlock)) (by (with_reducible repeat (first | apply Kd.V_alloc | apply Kd.V_drewN | apply Kd.V_drew)); exact HL266_0.out) hg (.inl rfl)); have n4_ := Aside0.mk ((by rw [hw]; exact below_set (HB.out) GB40.out : Below w.heap.size w w54)); clear HO_5; clear HO_7; clear HL265_0; clear HL266_0; clear HB; have HO_5 := n0_; have HO_7 := n1_; have HL265_0 := n2_; have HL266_0 := n3_; have HB := n4_; clear n0_ n1_ n2_ n3_ n4_; clear hg hw hp_; have p41 : 0 ≤ (x8_3 : Int) := of_decide_eq_true (by assumption); have q41 : (x8_3 : Int) < ((x5_3.length : Int) : Int) := of_decide_eq_true (by assumption); obtain ⟨ce41, hcl41, hM41, hcc41, hfr41⟩ := Kd.N_elem HO_5.out [] (x8_3 : Int) p41 q41; obtain ⟨ua41_0, uc41_0, rfl, ul41_0, ge41_0⟩ := Kd.FK_slice_open hM41; have hx41_0 := hcc41 0 _ rfl; have hf41_0 := hfr41 0; (try simp only [show ((Kd.slice 3 (Kd.int .i64))).sz = 1 from rfl, Nat.mul_one, Nat.add_zero] at hx41_0); (try simp only [show ((Kd.slice 3 (Kd.int .i64))).sz = 1 from rfl, Nat.mul_one, Nat.add_zero] at hf41_0); (try clear hM41); clear hcl41 hcc41 hfr41; replace p41 := eq_true p41; replace q41 := eq_true q41; have HX55 := Aside0.mk (show Kd.N (Kd.slice 3 (Kd.int .i64)) 43 w54 w.heap.size (fun k_ => (w.heap.size ≤ k_) ∧ some k_ ≠ (v258 : Value).ownBlock) (.slice (some ⟨go40, 0, none⟩) x5_3.length co52) y267 from (by (with_reducible repeat (first | apply Kd.N_alloc | apply Kd.N_drewN | apply Kd.N_drew)); exact HO_5.out)); obtain ⟨ce55, hcl55, hM55, hcc55, hfr55⟩ := Kd.N_elem HX55.out [] (x8_3 : Int) (of_decide_eq_true (by assumption)) (by have h_ : (x8_3 : Int) < ((x5_3.length : Int) : Int) := of_decide_eq_true (by assumption); first | exact h_ | (have e_ := (Kd.N_reads' HO_5.out).1; omega) | simpa using h_); obtain ⟨ua55_0, uc55_0, rfl, ul55_0, ge55_0⟩ := Kd.FK_slice_open hM55; have HP55 := Kd.N_seg HX55.out (x8_3 : Int) (of_decide_eq_true (by assumption)) (by have h_ : (x8_3 : Int) < ((x5_3.length : Int) : Int) := of_decide_eq_true (by assumption); first | exact h_ | (have e_ := (Kd.N_reads' HO_5.out).1; omega) | simpa using h_) (seg := [.slice A265_0 (rd_L2 x5_3 x9_23).length c265_0]) (j := 0) hcl55 hcc55 (show 1 ≤ 1 from by decide) (x' := rd_L2 x5_3 x9_23) (Kd.FK_slice_mk (Kd.V_reads' (Kd.V_mono (ok' := (fun k_ => ((fun k_ => (w.heap.size ≤ k_) ∧ some k_ ≠ (v258 : Value).ownBlock)) k_ ∧ k_ ≠ go40)) (HL265_0.out) (fun k_ hk => ⟨⟨hk.1.1, hk.1.2⟩, fun e_ => (hk.2) (by rw [e_]; rfl)⟩))).2.1 (Kd.V_F (Kd.V_mono (ok' := (fun k_ => ((fun k_ => (w.heap.size ≤ k_) ∧ some k_ ≠ (v258 : Value).ownBlock)) k_ ∧ k_ ≠ go40)) (HL265_0.out) (fun k_ hk => ⟨⟨hk.1.1, hk.1.2⟩, fun e_ => (hk.2) (by rw [e_]; rfl)⟩)))) (fun _ hk => hk); have hx55_0 := hcc55 0 _ rfl; (try simp only [show ((Kd.slice 3 (Kd.int .i64))).sz = 1 from rfl, Nat.mul_one, Nat.add_zero] at hx55_0); have hf55_0 := hfr55 0; (try simp only [show ((Kd.slice 3 (Kd.int .i64))).sz = 1 from rfl, Nat.mul_one, Nat.add_zero] at hf55_0); (try clear hM55); clear hcl55 hcc55 hfr55; (try simp only [show ((Kd.slice 3 (Kd.int .i64))).sz = 1 from rfl, Nat.mul_one, Nat.add_zero] at HP55); (try simp only [show ((Kd.slice 3 (Kd.int .i64))).sz = 1 from rfl, Nat.mul_one, Nat.add_zero] at HP55)) | ((with_reducible refine gate_store (t := 43) (p := 86) rfl ?_); refine store_event (t := 43) (p := 86) (v := ?vo_w56) (w1 := (w54.setCell ⟨go40, (x8_3 : Int).toNat, none⟩ (.slice A265_0 (rd_L2 x5_3 x9_23).length c265_0))) ?hg ?ho ?hn ?hr ?_; (case ho => rfl); (case hg => rfl); (case hn => rfl); (case hr => first | (go_simp; done) | (go_simp; rfl)); intro w56 hw; have hg : w54.grownBy w56 (some go40) := (by rw [hw]; exact HP55.2); have hp_ : Kd.N (Kd.slice 3 (Kd.int .i64)) 43 w56 w.heap.size (fun k_ => (w.heap.size ≤ k_) ∧ some k_ ≠ (v258 : Value).ownBlock) (.slice (some ⟨go40, 0, none⟩) x5_3.length co52) y268 := (by rw [hw, Ny268.out]; exact HP55.1); clear HP55; have n0_ := Aside0.mk (hp_); have n1_ := Aside0.mk (Kd.N_afterv (v := (.slice (some ⟨go40, 0, none⟩) x5_3.length co52)) (v1 := (.slice (some ⟨go40, 0, none⟩) x5_3.length co52)) (ok := (fun k_ => (w.heap.size ≤ k_))) (by (with_reducible repeat (first | apply Kd.N_alloc | apply Kd.N_drewN | apply Kd.N_drew)); exact HO_7.out) hg (.inl rfl)); have n2_ := Aside0.mk (Kd.V_afterv (v := (.slice (some ⟨go40, 0, none⟩) x5_3.length co52)) (v1 := (.slice (some ⟨go40, 0, none⟩) x5_3.length co52)) (ok := (fun k_ => (w.heap.size ≤ k_) ∧ some k_ ≠ (v258 : Value).ownBlock)) (by (with_reducible repeat (first | apply Kd.V_alloc | apply Kd.V_drewN | apply Kd.V_drew)); exact HL265_0.out) hg (.inl rfl)); have n3_ := Aside0.mk (Kd.V_afterv (v := (.slice (some ⟨go40, 0, none⟩) x5_3.length co52)) (v1 := (.slice (some ⟨go40, 0, none⟩) x5_3.length co52)) (ok := (fun k_ => (w.heap.size ≤ k_) ∧ some k_ ≠ (v258 : Value).ownBlock)) (by (with_reducible repeat (first | apply Kd.V_alloc | apply Kd.V_drewN | apply Kd.V_drew)); exact HL266_0.out) hg (.inl rfl)); have n4_ := Aside0.mk ((by rw [hw]; exact below_set (HB.out) GB40.out : Below w.heap.size w w56)); clear HO_5; clear HO_7; clear HL265_0; clear HL266_0; clear HB; have HO_5 := n0_; have HO_7 := n1_; have HL265_0 := n2_; have HL266_0 := n3_; have HB := n4_; clear n0_ n1_ n2_ n3_ n4_; clear hg hw hp_; obtain ⟨Ao57, co57, eo57⟩ := Kd.N_slice HO_7.out; subst eo57; have p269 : 0 ≤ (x9_23 : Int) := of_decide_eq_true (by assumption); have q269 : x9_23 < (x7_3.length : Int) := of_decide_eq_true (by assumption); obtain ⟨ad269, A269_0, c269_0, e269, hx269_0, hl269_0, hi269_0⟩ := at_L2 (Kd.N_reads' HO_7.out).2.2 x9_23 p269 q269; cases e269; obtain ⟨ce269, hce269, hMe269, hcc269⟩ := Kd.N_get HO_7.out [] x9_23 p269 (by first | exact q269 | exact of_decide_eq_true (by assumption) | (have e_ := (Kd.N_reads' HO_7.out).1; omega)); obtain ⟨ua269_0, uc269_0, rfl, ul269_0, ge269_0⟩ := Kd.FK_slice_open hMe269; have hv269_0 := hcc269 0 _ rfl; rw [Nat.add_zero, show ((Kd.slice 3 (Kd.int .i64))).sz = 1 from rfl, Nat.mul_one] at hv269_0; replace hv269_0 := Option.some.inj (hv269_0.symm.trans hx269_0); injection hv269_0 with hva_ hvn_ hvc_; rw [hva_] at ge269_0; rw [hvc_] at ul269_0; have HL269_0 := Aside0.mk (show Kd.V (Kd.int .i64) 3 _ w.heap.size _ _ (rd_L2 x7_3 x9_23) from Kd.V_mk ul269_0 ge269_0); clear hva_ hvn_ hvc_ ge269_0 ul269_0; clear hcc269 hce269; have HR269_0 := Aside0.mk hi269_0; have HC269_0 := Aside0.mk hl269_0; clear hi269_0 hl269_0; replace p269 := eq_true p269; replace q269 := eq_true q269; have p270 : 0 ≤ (x8_3 : Int) := of_decide_eq_true (by assumption); have q270 : x8_3 < (x7_3.length : Int) := of_decide_eq_true (by assumption); obtain ⟨ad270, A270_0, c270_0, e270, hx270_0, hl270_0, hi270_0⟩ := at_L2 (Kd.N_reads' HO_7.out).2.2 x8_3 p270 q270; obtain rfl : ad269 = ad270 := (by injection e270); obtain ⟨ce270, hce270, hMe270, hcc270⟩ := Kd.N_get HO_7.out [] x8_3 p270 (by first | exact q270 | exact of_decide_eq_true (by assumption) | (have e_ := (Kd.N_reads' HO_7.out).1; omega)); obtain ⟨ua270_0, uc270_0, rfl, ul270_0, ge270_0⟩ := Kd.FK_slice_open hMe270; have hv270_0 := hcc270 0 _ rfl; rw [Nat.add_zero, show ((Kd.slice 3 (Kd.int .i64))).sz = 1 from rfl, Nat.mul_one] at hv270_0; replace hv270_0 := Option.some.inj (hv270_0.symm.trans hx270_0); injection hv270_0 with hva_ hvn_ hvc_; rw [hva_] at ge270_0; rw [hvc_] at ul270_0; have HL270_0 := Aside0.mk (show Kd.V (Kd.int .i64) 3 _ w.heap.size _ _ (rd_L2 x7_3 x8_3) from Kd.V_mk ul270_0 ge270_0); clear hva_ hvn_ hvc_ ge270_0 ul270_0; clear hcc270 hce270; have HR270_0 := Aside0.mk hi270_0; have HC270_0 := Aside0.mk hl270_0; clear hi270_0 hl270_0; replace p270 := eq_true p270; replace q270 := eq_true q270; have p44 : 0 ≤ (x9_23 : Int) := of_decide_eq_true (by assumption); have q44 : (x9_23 : Int) < ((x7_3.length : Int) : Int) := of_decide_eq_true (by assumption); obtain ⟨go44, co44, eo44, gb44, gl44, cl44, HG44⟩ := Kd.N_form HO_7.out (by omega); (first | cases eo44 | (injection eo44 with ea_ en_ ec_; (first | subst ea_ | (injection ea_ with ea_; subst ea_)); subst ec_; clear en_)); have GB44 := Aside0.mk gb44; have GG44 := Aside0.mk HG44; clear gb44 gl44 HG44; (first | simp only [add_plain] at hx269_0 | skip); (first | simp only [add_plain] at hx270_0 | skip); obtain ⟨ce44, hcl44, hM44, hcc44, hfr44⟩ := Kd.N_elem HO_7.out [] (x9_23 : Int) p44 q44; obtain ⟨ua44_0, uc44_0, rfl, ul44_0, ge44_0⟩ := Kd.FK_slice_open hM44; have hx44_0 := hcc44 0 _ rfl; have hf44_0 := hfr44 0; (try simp only [show ((Kd.slice 3 (Kd.int .i64))).sz = 1 from rfl, Nat.mul_one, Nat.add_zero] at hx44_0); (try simp only [show ((Kd.slice 3 (Kd.int .i64))).sz = 1 from rfl, Nat.mul_one, Nat.add_zero] at hf44_0); (try clear hM44); clear hcl44 hcc44 hfr44; replace p44 := eq_true p44; replace q44 := eq_true q44; have HX58 := Aside0.mk (show Kd.N (Kd.slice 3 (Kd.int .i64)) 43 w56 w.heap.size (fun k_ => (w.heap.size ≤ k_) ∧ some k_ ≠ (.slice (some ⟨go40, 0, none⟩) x5_3.length co52 : Value).ownBlock) (.slice (some ⟨go44, 0, none⟩) x7_3.length co57) x7_3 from (by (with_reducible repeat (first | apply Kd.N_alloc | apply Kd.N_drewN | apply Kd.N_drew)); exact HO_7.out)); obtain ⟨ce58, hcl58, hM58, hcc58, hfr58⟩ := Kd.N_elem HX58.out [] (x9_23 : Int) (of_decide_eq_true (by assumption)) (by have h_ : (x9_23 : Int) < ((x7_3.length : Int) : Int) := of_decide_eq_true (by assumption); first | exact h_ | (have e_ := (Kd.N_reads' HO_7.out).1; omega) | simpa using h_); obtain ⟨ua58_0, uc58_0, rfl, ul58_0, ge58_0⟩ := Kd.FK_slice_open hM58; have HP58 := Kd.N_seg HX58.out (x9_23 : Int) (of_decide_eq_true (by assumption)) (by have h_ : (x9_23 : Int) < ((x7_3.length : Int) : Int) := of_decide_eq_true (by assumption); first | exact h_ | (have e_ := (Kd.N_reads' HO_7.out).1; omega) | simpa using h_) (seg := [.slice A270_0 (rd_L2 x7_3 x8_3).length c270_0]) (j := 0) hcl58 hcc58 (show 1 ≤ 1 from by decide) (x' := rd_L2 x7_3 x8_3) (Kd.FK_slice_mk (Kd.V_reads' (Kd.V_mono (ok' := (fun k_ => ((fun k_ => (w.heap.size ≤ k_) ∧ some k_ ≠ (.slice (some ⟨go40, 0, none⟩) x5_3.length co52 : Value).ownBlock)) k_ ∧ k_ ≠ go44)) (HL270_0.out) (fun k_ hk => ⟨⟨hk.1.1, hk.1.2⟩, fun e_ => (hk.2) (by rw [e_]; rfl)⟩))).2.1 (Kd.V_F (Kd.V_mono (ok' := (fun k_ => ((fun k_ => (w.heap.size ≤ k_) ∧ some k_ ≠ (.slice (some ⟨go40, 0, none⟩) x5_3.length co52 : Value).ownBlock)) k_ ∧ k_ ≠ go44)) (HL270_0.out) (fun k_ hk => ⟨⟨hk.1.1, hk.1.2⟩, fun e_ => (hk.2) (by rw [e_]; rfl)⟩)))) (fun _ hk => hk); have hx58_0 := hcc58 0 _ rfl; (try simp only [show ((Kd.slice 3 (Kd.int .i64))).sz = 1 from rfl, Nat.mul_one, Nat.add_zero] at hx58_0); have hf58_0 := hfr58 0; (try simp only [show ((Kd.slice 3 (Kd.int .i64))).sz = 1 from rfl, Nat.mul_one, Nat.add_zero] at hf58_0); (try clear hM58); clear hcl58 hcc58 hfr58; (try simp only [show ((Kd.slice 3 (Kd.int .i64))).sz = 1 from rfl, Nat.mul_one, Nat.add_zero] at HP58); (try simp only [show ((Kd.slice 3 (Kd.int .i64))).sz = 1 from rfl, Nat.mul_one, Nat.add_zero] at HP58)) | ((with_reducible refine gate_store (t := 43) (p := 97) rfl ?_); refine store_event (t := 43) (p := 97) (v := ?vo_w59) (w1 := (w56.setCell ⟨go44, (x9_23 : Int).toNat, none⟩ (.slice A270_0 (rd_L2 x7_3 x8_3).length c270_0))) ?hg ?ho ?hn ?hr ?_; (case ho => rfl); (case hg => rfl); (case hn => rfl); (case hr => first | (go_simp; done) | (go_simp; rfl)); intro w59 hw; have hg : w56.grownBy w59 (some go44) := (by rw [hw]; exact HP58.2); have hp_ : Kd.N (Kd.slice 3 (Kd.int .i64)) 43 w59 w.heap.size (fun k_ => (w.heap.size ≤ k_) ∧ some k_ ≠ (.slice (some ⟨go40, 0, none⟩) x5_3.length co52 : Value).ownBlock) (.slice (some ⟨go44, 0, none⟩) x7_3.length co57) y271 := (by rw [hw, Ny271.out]; exact HP58.1); clear HP58; have n0_ := Aside0.mk (Kd.N_afterv (v := (.slice (some ⟨go44, 0, none⟩) x7_3.length co57)) (v1 := (.slice (some ⟨go44, 0, none⟩) x7_3.length co57)) (ok := (fun k_ => (w.heap.size ≤ k_))) (by (with_reducible repeat (first | apply Kd.N_alloc | apply Kd.N_drewN | apply Kd.N_drew)); exact HO_5.out) hg (.inl rfl)); have n1_ := Aside0.mk (hp_); have n2_ := Aside0.mk (Kd.V_afterv (v := (.slice (some ⟨go44, 0, none⟩) x7_3.length co57)) (v1 := (.slice (some ⟨go44, 0, none⟩) x7_3.length co57)) (ok := (fun k_ => (w.heap.size ≤ k_) ∧ some k_ ≠ (.slice (some ⟨go40, 0, none⟩) x5_3.length co52 : Value).ownBlock)) (by (with_reducible repeat (first | apply Kd.V_alloc | apply Kd.V_drewN | apply Kd.V_drew)); exact Kd.V_mono HL265_0.out (fun _ hk => by first | exact ⟨⟨hk.1.1, hk.2⟩, hk.1.2⟩ | (repeat' (first | exact hk.1 | exact hk.2 | exact hk.1.1 | exact hk.1.2 | exact hk.2.1 | exact hk.2.2 | exact hk.1.1.1 | exact hk.1.1.2 | exact hk.1.2.1 | exact hk.1.2.2 | exact hk.2.1.1 | exact hk.2.1.2 | exact hk.2.2.1 | exact hk.2.2.2 | exact hk.1.1.1.1 | exact hk.1.1.1.2 | exact hk.1.1.2.1 | exact hk.1.1.2.2 | exact hk.1.2.1.1 | exact hk.1.2.1.2 | exact hk.1.2.2.1 | exact hk.1.2.2.2 | exact hk.2.1.1.1 | exact hk.2.1.1.2 | exact hk.2.1.2.1 | exact hk.2.1.2.2 | exact hk.2.2.1.1 | exact hk.2.2.1.2 | exact hk.2.2.2.1 | exact hk.2.2.2.2 | constructor)))) hg (.inl rfl)); have n3_ := Aside0.mk (Kd.V_afterv (v := (.slice (some ⟨go44, 0, none⟩) x7_3.length co57)) (v1 := (.slice (some ⟨go44, 0, none⟩) x7_3.length co57)) (ok := (fun k_ => (w.heap.size ≤ k_) ∧ some k_ ≠ (.slice (some ⟨go40, 0, none⟩) x5_3.length co52 : Value).ownBlock)) (by (with_reducible repeat (first | apply Kd.V_alloc | apply Kd.V_drewN | apply Kd.V_drew)); exact Kd.V_mono HL266_0.out (fun _ hk => by first | exact ⟨⟨hk.1.1, hk.2⟩, hk.1.2⟩ | (repeat' (first | exact hk.1 | exact hk.2 | exact hk.1.1 | exact hk.1.2 | exact hk.2.1 | exact hk.2.2 | exact hk.1.1.1 | exact hk.1.1.2 | exact hk.1.2.1 | exact hk.1.2.2 | exact hk.2.1.1 | exact hk.2.1.2 | exact hk.2.2.1 | exact hk.2.2.2 | exact hk.1.1.1.1 | exact hk.1.1.1.2 | exact hk.1.1.2.1 | exact hk.1.1.2.2 | exact hk.1.2.1.1 | exact hk.1.2.1.2 | exact hk.1.2.2.1 | exact hk.1.2.2.2 | exact hk.2.1.1.1 | exact hk.2.1.1.2 | exact hk.2.1.2.1 | exact hk.2.1.2.2 | exact hk.2.2.1.1 | exact hk.2.2.1.2 | exact hk.2.2.2.1 | exact hk.2.2.2.2 | constructor)))) hg (.inl rfl)); have n4_ := Aside0.mk (Kd.V_afterv (v := (.slice (some ⟨go44, 0, none⟩) x7_3.length co57)) (v1 := (.slice (some ⟨go44, 0, none⟩) x7_3.length co57)) (ok := (fun k_ => (w.heap.size ≤ k_) ∧ some k_ ≠ (.slice (some ⟨go40, 0, none⟩) x5_3.length co52 : Value).ownBlock)) (by (with_reducible repeat (first | apply Kd.V_alloc | apply Kd.V_drewN | apply Kd.V_drew)); exact HL269_0.out) hg (.inl rfl)); have n5_ := Aside0.mk (Kd.V_afterv (v := (.slice (some ⟨go44, 0, none⟩) x7_3.length co57)) (v1 := (.slice (some ⟨go44, 0, none⟩) x7_3.length co57)) (ok := (fun k_ => (w.heap.size ≤ k_) ∧ some k_ ≠ (.slice (some ⟨go40, 0, none⟩) x5_3.length co52 : Value).ownBlock)) (by (with_reducible repeat (first | apply Kd.V_alloc | apply Kd.V_drewN | apply Kd.V_drew)); exact HL270_0.out) hg (.inl rfl)); have n6_ := Aside0.mk ((by rw [hw]; exact below_set (HB.out) GB44.out : Below w.heap.size w w59)); clear HO_5; clear HO_7; clear HL265_0; clear HL266_0; clear HL269_0; clear HL270_0; clear HB; have HO_5 := n0_; have HO_7 := n1_; have HL265_0 := n2_; have HL266_0 := n3_; have HL269_0 := n4_; have HL270_0 := n5_; have HB := n6_; clear n0_ n1_ n2_ n3_ n4_ n5_ n6_; clear hg hw hp_; have p45 : 0 ≤ (x8_3 : Int) := of_decide_eq_true (by assumption); have q45 : (x8_3 : Int) < ((x7_3.length : Int) : Int) := of_decide_eq_true (by assumption); obtain ⟨ce45, hcl45, hM45, hcc45, hfr45⟩ := Kd.N_elem HO_7.out [] (x8_3 : Int) p45 q45; obtain ⟨ua45_0, uc45_0, rfl, ul45_0, ge45_0⟩ := Kd.FK_slice_open hM45; have hx45_0 := hcc45 0 _ rfl; have hf45_0 := hfr45 0; (try simp only [show ((Kd.slice 3 (Kd.int .i64))).sz = 1 from rfl, Nat.mul_one, Nat.add_zero] at hx45_0); (try simp only [show ((Kd.slice 3 (Kd.int .i64))).sz = 1 from rfl, Nat.mul_one, Nat.add_zero] at hf45_0); (try clear hM45); clear hcl45 hcc45 hfr45; replace p45 := eq_true p45; replace q45 := eq_true q45; have HX60 := Aside0.mk (show Kd.N (Kd.slice 3 (Kd.int .i64)) 43 w59 w.heap.size (fun k_ => (w.heap.size ≤ k_) ∧ some k_ ≠ (.slice (some ⟨go40, 0, none⟩) x5_3.length co52 : Value).ownBlock) (.slice (some ⟨go44, 0, none⟩) x7_3.length co57) y271 from (by (with_reducible repeat (first | apply Kd.N_alloc | apply Kd.N_drewN | apply Kd.N_drew)); exact HO_7.out)); obtain ⟨ce60, hcl60, hM60, hcc60, hfr60⟩ := Kd.N_elem HX60.out [] (x8_3 : Int) (of_decide_eq_true (by assumption)) (by have h_ : (x8_3 : Int) < ((x7_3.length : Int) : Int) := of_decide_eq_true (by assumption); first | exact h_ | (have e_ := (Kd.N_reads' HO_7.out).1; omega) | simpa using h_); obtain ⟨ua60_0, uc60_0, rfl, ul60_0, ge60_0⟩ := Kd.FK_slice_open hM60; have HP60 := Kd.N_seg HX60.out (x8_3 : Int) (of_decide_eq_true (by assumption)) (by have h_ : (x8_3 : Int) < ((x7_3.length : Int) : Int) := of_decide_eq_true (by assumption); first | exact h_ | (have e_ := (Kd.N_reads' HO_7.out).1; omega) | simpa using h_) (seg := [.slice A269_0 (rd_L2 x7_3 x9_23).length c269_0]) (j := 0) hcl60 hcc60 (show 1 ≤ 1 from by decide) (x' := rd_L2 x7_3 x9_23) (Kd.FK_slice_mk (Kd.V_reads' (Kd.V_mono (ok' := (fun k_ => ((fun k_ => (w.heap.size ≤ k_) ∧ some k_ ≠ (.slice (some ⟨go40, 0, none⟩) x5_3.length co52 : Value).ownBlock)) k_ ∧ k_ ≠ go44)) (HL269_0.out) (fun k_ hk => ⟨⟨hk.1.1, hk.1.2⟩, fun e_ => (hk.2) (by rw [e_]; rfl)⟩))).2.1 (Kd.V_F (Kd.V_mono (ok' := (fun k_ => ((fun k_ => (w.heap.size ≤ k_) ∧ some k_ ≠ (.slice (some ⟨go40, 0, none⟩) x5_3.length co52 : Value).ownBlock)) k_ ∧ k_ ≠ go44)) (HL269_0.out) (fun k_ hk => ⟨⟨hk.1.1, hk.1.2⟩, fun e_ => (hk.2) (by rw [e_]; rfl)⟩)))) (fun _ hk => hk); have hx60_0 := hcc60 0 _ rfl; (try simp only [show ((Kd.slice 3 (Kd.int .i64))).sz = 1 from rfl, Nat.mul_one, Nat.add_zero] at hx60_0); have hf60_0 := hfr60 0; (try simp only [show ((Kd.slice 3 (Kd.int .i64))).sz = 1 from rfl, Nat.mul_one, Nat.add_zero] at hf60_0); (try clear hM60); clear hcl60 hcc60 hfr60; (try simp only [show ((Kd.slice 3 (Kd.int .i64))).sz = 1 from rfl, Nat.mul_one, Nat.add_zero] at HP60); (try simp only [show ((Kd.slice 3 (Kd.int .i64))).sz = 1 from rfl, Nat.mul_one, Nat.add_zero] at HP60)) | ((with_reducible refine gate_store (t := 43) (p := 101) rfl ?_); refine store_event (t := 43) (p := 101) (v := ?vo_w61) (w1 := (w59.setCell ⟨go44, (x8_3 : Int).toNat, none⟩ (.slice A269_0 (rd_L2 x7_3 x9_23).length c269_0))) ?hg ?ho ?hn ?hr ?_; (case ho => rfl); (case hg => rfl); (case hn => rfl); (case hr => first | (go_simp; done) | (go_simp; rfl)); intro w61 hw; have hg : w59.grownBy w61 (some go44) := (by rw [hw]; exact HP60.2); have hp_ : Kd.N (Kd.slice 3 (Kd.int .i64)) 43 w61 w.heap.size (fun k_ => (w.heap.size ≤ k_) ∧ some k_ ≠ (.slice (some ⟨go40, 0, none⟩) x5_3.length co52 : Value).ownBlock) (.slice (some ⟨go44, 0, none⟩) x7_3.length co57) y272 := (by rw [hw, Ny272.out]; exact HP60.1); clear HP60; have n0_ := Aside0.mk (Kd.N_afterv (v := (.slice (some ⟨go44, 0, none⟩) x7_3.length co57)) (v1 := (.slice (some ⟨go44, 0, none⟩) x7_3.length co57)) (ok := (fun k_ => (w.heap.size ≤ k_))) (by (with_reducible repeat (first | apply Kd.N_alloc | apply Kd.N_drewN | apply Kd.N_drew)); exact HO_5.out) hg (.inl rfl)); have n1_ := Aside0.mk (hp_); have n2_ := Aside0.mk (Kd.V_afterv (v := (.slice (some ⟨go44, 0, none⟩) x7_3.length co57)) (v1 := (.slice (some ⟨go44, 0, none⟩) x7_3.length co57)) (ok := (fun k_ => (w.heap.size ≤ k_) ∧ some k_ ≠ (.slice (some ⟨go40, 0, none⟩) x5_3.length co52 : Value).ownBlock)) (by (with_reducible repeat (first | apply Kd.V_alloc | apply Kd.V_drewN | apply Kd.V_drew)); exact HL265_0.out) hg (.inl rfl)); have n3_ := Aside0.mk (Kd.V_afterv (v := (.slice (some ⟨go44, 0, none⟩) x7_3.length co57)) (v1 := (.slice (some ⟨go44, 0, none⟩) x7_3.length co57)) (ok := (fun k_ => (w.heap.size ≤ k_) ∧ some k_ ≠ (.slice (some ⟨go40, 0, none⟩) x5_3.length co52 : Value).ownBlock)) (by (with_reducible repeat (first | apply Kd.V_alloc | apply Kd.V_drewN | apply Kd.V_drew)); exact HL266_0.out) hg (.inl rfl)); have n4_ := Aside0.mk (Kd.V_afterv (v := (.slice (some ⟨go44, 0, none⟩) x7_3.length co57)) (v1 := (.slice (some ⟨go44, 0, none⟩) x7_3.length co57)) (ok := (fun k_ => (w.heap.size ≤ k_) ∧ some k_ ≠ (.slice (some ⟨go40, 0, none⟩) x5_3.length co52 : Value).ownBlock)) (by (with_reducible repeat (first | apply Kd.V_alloc | apply Kd.V_drewN | apply Kd.V_drew)); exact HL269_0.out) hg (.inl rfl)); have n5_ := Aside0.mk (Kd.V_afterv (v := (.slice (some ⟨go44, 0, none⟩) x7_3.length co57)) (v1 := (.slice (some ⟨go44, 0, none⟩) x7_3.length co57)) (ok := (fun k_ => (w.heap.size ≤ k_) ∧ some k_ ≠ (.slice (some ⟨go40, 0, none⟩) x5_3.length co52 : Value).ownBlock)) (by (with_reducible repeat (first | apply Kd.V_alloc | apply Kd.V_drewN | apply Kd.V_drew)); exact HL270_0.out) hg (.inl rfl)); have n6_ := Aside0.mk ((by rw [hw]; exact below_set (HB.out) GB44.out : Below w.heap.size w w61)); clear HO_5; clear HO_7; clear HL265_0; clear HL266_0; clear HL269_0; clear HL270_0; clear HB; have HO_5 := n0_; have HO_7 := n1_; have HL265_0 := n2_; have HL266_0 := n3_; have HL269_0 := n4_; have HL270_0 := n5_; have HB := n6_; clear n0_ n1_ n2_ n3_ n4_ n5_ n6_; clear hg hw hp_; have p273 : 0 ≤ (x8_3 : Int) := of_decide_eq_true (by assumption); have q273 : x8_3 < (y268.length : Int) := (by have h_ : (x8_3 : Int) < ((x5_3.length : Int) : Int) := of_decide_eq_true (by assumption); first | (have e_ := (Kd.N_reads' HO_5.out).1; omega) | simpa only [Ny267.out, Ny268.out, List.length_set] using h_); have ql273 : ((x8_3 : Int) < ((x5_3.length : Int) : Int)) = True := eq_true (of_decide_eq_true (by assumption)); obtain ⟨ad273, A273_0, c273_0, e273, hx273_0, hl273_0, hi273_0⟩ := at_L2 (Kd.N_reads' HO_5.out).2.2 x8_3 p273 q273; obtain rfl : (⟨go40, 0, none⟩ : Addr) = ad273 := (by injection e273); obtain ⟨ce273, hce273, hMe273, hcc273⟩ := Kd.N_get HO_5.out [] x8_3 p273 (by first | exact q273 | exact of_decide_eq_true (by assumption) | (have e_ := (Kd.N_reads' HO_5.out).1; omega)); obtain ⟨ua273_0, uc273_0, rfl, ul273_0, ge273_0⟩ := Kd.FK_slice_open hMe273; have hv273_0 := hcc273 0 _ rfl; rw [Nat.add_zero, show ((Kd.slice 3 (Kd.int .i64))).sz = 1 from rfl, Nat.mul_one] at hv273_0; replace hv273_0 := Option.some.inj (hv273_0.symm.trans hx273_0); injection hv273_0 with hva_ hvn_ hvc_; rw [hva_] at ge273_0; rw [hvc_] at ul273_0; have HL273_0 := Aside0.mk (show Kd.V (Kd.int .i64) 3 _ w.heap.size _ _ (rd_L2 y268 x8_3) from Kd.V_mk ul273_0 ge273_0); clear hva_ hvn_ hvc_ ge273_0 ul273_0; clear hcc273 hce273; (first | simp only [add_plain] at hx273_0 | simp only [add_at] at hx273_0 | simp only [Addr.add, Nat.zero_add] at hx273_0 | skip); have HR273_0 := Aside0.mk hi273_0; have HC273_0 := Aside0.mk hl273_0; clear hi273_0 hl273_0; replace p273 := eq_true p273; replace q273 := eq_true q273; have p274 : 0 ≤ (x8_3 : Int) := of_decide_eq_true (by assumption); have q274 : x8_3 < ((rd_L2 y268 x8_3).length : Int) := of_decide_eq_true (by assumption); obtain ⟨ad274, e274, hx274_0⟩ := Kd.at_int (by repeat (first | (with_reducible exact HR273_0.out) | (with_reducible refine Kd.C_alloc ?_ _) | (with_reducible refine Kd.C_drewN ?_ _) | (with_reducible refine Kd.C_drew ?_) | exact HR273_0.out)) x8_3 p274 q274; cases e274; replace p274 := eq_true p274; replace q274 := eq_true q274) | ((with_reducible refine gate_callee (f := 62) rfl ?_); refine goesL_ (some 109) rfl rfl Try.func62 (by kernel_rfl) rfl #[.int .i64 (rd (rd_L2 y268 x8_3) x8_3)] rfl (by (try simp only [List.map_toArray, List.map_cons, List.map_nil]); first | done | rfl) ?_; (with_reducible refine (spec_InvG.calls kj23 (rd (rd_L2 y268 x8_3) x8_3) t275 _ A47.out).mono ?_); rintro e w' ⟨rfl, ⟨nd, rfl⟩⟩; refine ⟨_, rfl, ?_⟩; (try (rw [drewN_self w61]; generalize hq_ : World.drewN w61 _ = w61; have n0_ : Aside0 (Kd.V (Kd.int .i64) 3 w61 w.heap.size (fun k_ => (w.heap.size ≤ k_) ∧ some k_ ≠ (.slice (some ⟨go40, 0, none⟩) x5_3.length co52 : Value).ownBlock ∧ some k_ ≠ (.slice (some ⟨go44, 0, none⟩) x7_3.length co57 : Value).ownBlock) (.slice A265_0 (rd_L2 x5_3 x9_23).length c265_0) (rd_L2 x5_3 x9_23)) := ⟨by rw [← hq_]; exact (by (with_reducible repeat (first | apply Kd.V_alloc | apply Kd.V_drewN | apply Kd.V_drew)); exact Kd.V_mono HL265_0.out (fun _ hk => by first | exact ⟨hk.1.1, ⟨hk.1.2, hk.2⟩⟩ | (repeat' (first | exact hk.1 | exact hk.2 | exact hk.1.1 | exact hk.1.2 | exact hk.2.1 | exact hk.2.2 | exact hk.1.1.1 | exact hk.1.1.2 | exact hk.1.2.1 | exact hk.1.2.2 | exact hk.2.1.1 | exact hk.2.1.2 | exact hk.2.2.1 | exact hk.2.2.2 | exact hk.1.1.1.1 | exact hk.1.1.1.2 | exact hk.1.1.2.1 | exact hk.1.1.2.2 | exact hk.1.2.1.1 | exact hk.1.2.1.2 | exact hk.1.2.2.1 | exact hk.1.2.2.2 | exact hk.2.1.1.1 | exact hk.2.1.1.2 | exact hk.2.1.2.1 | exact hk.2.1.2.2 | exact hk.2.2.1.1 | exact hk.2.2.1.2 | exact hk.2.2.2.1 | exact hk.2.2.2.2 | constructor))))⟩; have n1_ : Aside0 (Kd.V (Kd.int .i64) 3 w61 w.heap.size (fun k_ => (w.heap.size ≤ k_) ∧ some k_ ≠ (.slice (some ⟨go40, 0, none⟩) x5_3.length co52 : Value).ownBlock ∧ some k_ ≠ (.slice (some ⟨go44, 0, none⟩) x7_3.length co57 : Value).ownBlock) (.slice A266_0 (rd_L2 x5_3 x8_3).length c266_0) (rd_L2 x5_3 x8_3)) := ⟨by rw [← hq_]; exact (by (with_reducible repeat (first | apply Kd.V_alloc | apply Kd.V_drewN | apply Kd.V_drew)); exact Kd.V_mono HL266_0.out (fun _ hk => by first | exact ⟨hk.1.1, ⟨hk.1.2, hk.2⟩⟩ | (repeat' (first | exact hk.1 | exact hk.2 | exact hk.1.1 | exact hk.1.2 | exact hk.2.1 | exact hk.2.2 | exact hk.1.1.1 | exact hk.1.1.2 | exact hk.1.2.1 | exact hk.1.2.2 | exact hk.2.1.1 | exact hk.2.1.2 | exact hk.2.2.1 | exact hk.2.2.2 | exact hk.1.1.1.1 | exact hk.1.1.1.2 | exact hk.1.1.2.1 | exact hk.1.1.2.2 | exact hk.1.2.1.1 | exact hk.1.2.1.2 | exact hk.1.2.2.1 | exact hk.1.2.2.2 | exact hk.2.1.1.1 | exact hk.2.1.1.2 | exact hk.2.1.2.1 | exact hk.2.1.2.2 | exact hk.2.2.1.1 | exact hk.2.2.1.2 | exact hk.2.2.2.1 | exact hk.2.2.2.2 | constructor))))⟩; have n2_ : Aside0 (Kd.V (Kd.int .i64) 3 w61 w.heap.size (fun k_ => (w.heap.size ≤ k_) ∧ some k_ ≠ (.slice (some ⟨go40, 0, none⟩) x5_3.length co52 : Value).ownBlock ∧ some k_ ≠ (.slice (some ⟨go44, 0, none⟩) x7_3.length co57 : Value).ownBlock) (.slice A269_0 (rd_L2 x7_3 x9_23).length c269_0) (rd_L2 x7_3 x9_23)) := ⟨by rw [← hq_]; exact (by (with_reducible repeat (first | apply Kd.V_alloc | apply Kd.V_drewN | apply Kd.V_drew)); exact Kd.V_mono HL269_0.out (fun _ hk => by first | exact ⟨hk.1.1, ⟨hk.1.2, hk.2⟩⟩ | (repeat' (first | exact hk.1 | exact hk.2 | exact hk.1.1 | exact hk.1.2 | exact hk.2.1 | exact hk.2.2 | exact hk.1.1.1 | exact hk.1.1.2 | exact hk.1.2.1 | exact hk.1.2.2 | exact hk.2.1.1 | exact hk.2.1.2 | exact hk.2.2.1 | exact hk.2.2.2 | exact hk.1.1.1.1 | exact hk.1.1.1.2 | exact hk.1.1.2.1 | exact hk.1.1.2.2 | exact hk.1.2.1.1 | exact hk.1.2.1.2 | exact hk.1.2.2.1 | exact hk.1.2.2.2 | exact hk.2.1.1.1 | exact hk.2.1.1.2 | exact hk.2.1.2.1 | exact hk.2.1.2.2 | exact hk.2.2.1.1 | exact hk.2.2.1.2 | exact hk.2.2.2.1 | exact hk.2.2.2.2 | constructor))))⟩; have n3_ : Aside0 (Kd.V (Kd.int .i64) 3 w61 w.heap.size (fun k_ => (w.heap.size ≤ k_) ∧ some k_ ≠ (.slice (some ⟨go40, 0, none⟩) x5_3.length co52 : Value).ownBlock ∧ some k_ ≠ (.slice (some ⟨go44, 0, none⟩) x7_3.length co57 : Value).ownBlock) (.slice A270_0 (rd_L2 x7_3 x8_3).length c270_0) (rd_L2 x7_3 x8_3)) := ⟨by rw [← hq_]; exact (by (with_reducible repeat (first | apply Kd.V_alloc | apply Kd.V_drewN | apply Kd.V_drew)); exact Kd.V_mono HL270_0.out (fun _ hk => by first | exact ⟨hk.1.1, ⟨hk.1.2, hk.2⟩⟩ | (repeat' (first | exact hk.1 | exact hk.2 | exact hk.1.1 | exact hk.1.2 | exact hk.2.1 | exact hk.2.2 | exact hk.1.1.1 | exact hk.1.1.2 | exact hk.1.2.1 | exact hk.1.2.2 | exact hk.2.1.1 | exact hk.2.1.2 | exact hk.2.2.1 | exact hk.2.2.2 | exact hk.1.1.1.1 | exact hk.1.1.1.2 | exact hk.1.1.2.1 | exact hk.1.1.2.2 | exact hk.1.2.1.1 | exact hk.1.2.1.2 | exact hk.1.2.2.1 | exact hk.1.2.2.2 | exact hk.2.1.1.1 | exact hk.2.1.1.2 | exact hk.2.1.2.1 | exact hk.2.1.2.2 | exact hk.2.2.1.1 | exact hk.2.2.1.2 | exact hk.2.2.2.1 | exact hk.2.2.2.2 | constructor))))⟩; have n4_ : Aside0 (Kd.V (Kd.int .i64) 3 w61 w.heap.size (fun k_ => (w.heap.size ≤ k_) ∧ some k_ ≠ (.slice (some ⟨go40, 0, none⟩) x5_3.length co52 : Value).ownBlock ∧ some k_ ≠ (.slice (some ⟨go44, 0, none⟩) x7_3.length co57 : Value).ownBlock) (.slice (some ad274) (rd_L2 y268 x8_3).length c273_0) (rd_L2 y268 x8_3)) := ⟨by rw [← hq_]; exact (by (with_reducible repeat (first | apply Kd.V_alloc | apply Kd.V_drewN | apply Kd.V_drew)); exact Kd.V_mono HL273_0.out (fun _ hk => by first | exact ⟨hk.1.1, ⟨hk.2, hk.1.2⟩⟩ | (repeat' (first | exact hk.1 | exact hk.2 | exact hk.1.1 | exact hk.1.2 | exact hk.2.1 | exact hk.2.2 | exact hk.1.1.1 | exact hk.1.1.2 | exact hk.1.2.1 | exact hk.1.2.2 | exact hk.2.1.1 | exact hk.2.1.2 | exact hk.2.2.1 | exact hk.2.2.2 | exact hk.1.1.1.1 | exact hk.1.1.1.2 | exact hk.1.1.2.1 | exact hk.1.1.2.2 | exact hk.1.2.1.1 | exact hk.1.2.1.2 | exact hk.1.2.2.1 | exact hk.1.2.2.2 | exact hk.2.1.1.1 | exact hk.2.1.1.2 | exact hk.2.1.2.1 | exact hk.2.1.2.2 | exact hk.2.2.1.1 | exact hk.2.2.1.2 | exact hk.2.2.2.1 | exact hk.2.2.2.2 | constructor))))⟩; have n5_ : Aside0 (Kd.N (Kd.slice 3 (Kd.int .i64)) 43 w61 w.heap.size (fun k_ => (w.heap.size ≤ k_) ∧ some k_ ≠ (.slice (some ⟨go44, 0, none⟩) x7_3.length co57 : Value).ownBlock) (.slice (some ⟨go40, 0, none⟩) x5_3.length co52) y268) := ⟨by rw [← hq_]; exact (by (with_reducible repeat (first | apply Kd.N_alloc | apply Kd.N_drewN | apply Kd.N_drew)); exact HO_5.out)⟩; have n6_ : Aside0 (Kd.N (Kd.slice 3 (Kd.int .i64)) 43 w61 w.heap.size (fun k_ => (w.heap.size ≤ k_) ∧ some k_ ≠ (.slice (some ⟨go40, 0, none⟩) x5_3.length co52 : Value).ownBlock) (.slice (some ⟨go44, 0, none⟩) x7_3.length co57) y272) := ⟨by rw [← hq_]; exact (by (with_reducible repeat (first | apply Kd.N_alloc | apply Kd.N_drewN | apply Kd.N_drew)); exact HO_7.out)⟩; have n7_ : Aside0 (Below w.heap.size w w61) := ⟨by rw [← hq_]; exact (by repeat (first | exact HB.out | apply below_alloc | apply pw_below_drewN | apply below_drew1))⟩; have n8_ : Aside0 (Kd.C (Kd.int .i64) w61 (some ad274) (rd_L2 y268 x8_3).length (rd_L2 y268 x8_3)) := ⟨by rw [← hq_]; exact (by repeat (first | (with_reducible exact HR273_0.out) | (with_reducible refine Kd.C_alloc ?_ _) | (with_reducible refine Kd.C_drewN ?_ _) | (with_reducible refine Kd.C_drew ?_) | exact HR273_0.out))⟩; (try have hx273_0 := (congrArg (fun W_ => World.cell? W_ _) hq_).symm.trans hx273_0); clear HL265_0 HL266_0 HL269_0 HL270_0 HL273_0 HO_5 HO_7 HB HR273_0 hq_; have HL265_0 := n0_; have HL266_0 := n1_; have HL269_0 := n2_; have HL270_0 := n3_; have HL273_0 := n4_; have HO_5 := n5_; have HO_7 := n6_; have HB := n7_; have HR273_0 := n8_; clear n0_ n1_ n2_ n3_ n4_ n5_ n6_ n7_ n8_)); have p276 : 0 ≤ (x8_3 : Int) := of_decide_eq_true (by assumption); have q276 : x8_3 < (y268.length : Int) := (by have h_ : (x8_3 : Int) < ((x5_3.length : Int) : Int) := of_decide_eq_true (by assumption); first | (have e_ := (Kd.N_reads' HO_5.out).1; omega) | simpa only [Ny267.out, Ny268.out, List.length_set] using h_); have ql276 : ((x8_3 : Int) < ((x5_3.length : Int) : Int)) = True := eq_true (of_decide_eq_true (by assumption)); obtain ⟨ad276, A276_0, c276_0, e276, hx276_0, hl276_0, hi276_0⟩ := at_L2 (Kd.N_reads' HO_5.out).2.2 x8_3 p276 q276; obtain rfl : (⟨go40, 0, none⟩ : Addr) = ad276 := (by injection e276); obtain ⟨ce276, hce276, hMe276, hcc276⟩ := Kd.N_get HO_5.out [] x8_3 p276 (by first | exact q276 | exact of_decide_eq_true (by assumption) | (have e_ := (Kd.N_reads' HO_5.out).1; omega)); obtain ⟨ua276_0, uc276_0, rfl, ul276_0, ge276_0⟩ := Kd.FK_slice_open hMe276; have hv276_0 := hcc276 0 _ rfl; rw [Nat.add_zero, show ((Kd.slice 3 (Kd.int .i64))).sz = 1 from rfl, Nat.mul_one] at hv276_0; replace hv276_0 := Option.some.inj (hv276_0.symm.trans hx276_0); injection hv276_0 with hva_ hvn_ hvc_; rw [hva_] at ge276_0; rw [hvc_] at ul276_0; have HL276_0 := Aside0.mk (show Kd.V (Kd.int .i64) 3 _ w.heap.size _ _ (rd_L2 y268 x8_3) from Kd.V_mk ul276_0 ge276_0); clear hva_ hvn_ hvc_ ge276_0 ul276_0; clear hcc276 hce276; (first | simp only [add_plain] at hx276_0 | simp only [add_at] at hx276_0 | simp only [Addr.add, Nat.zero_add] at hx276_0 | skip); have HR276_0 := Aside0.mk hi276_0; have HC276_0 := Aside0.mk hl276_0; clear hi276_0 hl276_0; replace p276 := eq_true p276; replace q276 := eq_true q276; have ea_ := Option.some.inj (hx273_0.symm.trans hx276_0); injection ea_ with ea_ en_ ec_; subst ea_; subst ec_; clear en_) | ((with_reducible refine gate_callee (f := 63) rfl ?_); refine goesL_ (some 117) rfl rfl Try.func63 (by kernel_rfl) rfl #[.slice (some ad274) (rd_L2 y268 x8_3).length c273_0, .int .i64 t275] rfl (by (try simp only [List.map_toArray, List.map_cons, List.map_nil]); first | done | rfl) ?_; (with_reducible refine (spec_l06Times.calls kj23 _ _ (rd_L2 y268 x8_3) t275 t277 _ ?side1 ?side2 A48.out).mono ?_); (case side1 => repeat (first | exact (by repeat (first | (with_reducible exact HR276_0.out) | (with_reducible refine Kd.C_alloc ?_ _) | (with_reducible refine Kd.C_drewN ?_ _) | (with_reducible refine Kd.C_drew ?_) | exact HR276_0.out)) | (with_reducible refine Kd.C_alloc ?_ _) | (with_reducible refine Kd.C_drewN ?_ _) | (with_reducible refine Kd.C_drew ?_))); (case side2 => exact HC276_0.out); rintro e w62 ⟨v278, rfl, ho0, hb⟩; refine ⟨_, rfl, ?_⟩; have n0_ := Aside0.mk (Kd.N_elder' (by (with_reducible repeat (first | apply Kd.N_alloc | apply Kd.N_drewN | apply Kd.N_drew)); exact HO_5.out) (Kd.R_base ho0) hb); have n1_ := Aside0.mk (Kd.N_elder' (by (with_reducible repeat (first | apply Kd.N_alloc | apply Kd.N_drewN | apply Kd.N_drew)); exact HO_7.out) (Kd.R_base ho0) hb); have n2_ := Aside0.mk (Kd.V_elder' (by (with_reducible repeat (first | apply Kd.V_alloc | apply Kd.V_drewN | apply Kd.V_drew)); exact HL265_0.out) (Kd.R_base ho0) hb); have n3_ := Aside0.mk (Kd.V_elder' (by (with_reducible repeat (first | apply Kd.V_alloc | apply Kd.V_drewN | apply Kd.V_drew)); exact HL266_0.out) (Kd.R_base ho0) hb); have n4_ := Aside0.mk (Kd.V_elder' (by (with_reducible repeat (first | apply Kd.V_alloc | apply Kd.V_drewN | apply Kd.V_drew)); exact HL269_0.out) (Kd.R_base ho0) hb); have n5_ := Aside0.mk (Kd.V_elder' (by (with_reducible repeat (first | apply Kd.V_alloc | apply Kd.V_drewN | apply Kd.V_drew)); exact HL270_0.out) (Kd.R_base ho0) hb); have n6_ := Aside0.mk (Kd.V_elder' (by (with_reducible repeat (first | apply Kd.V_alloc | apply Kd.V_drewN | apply Kd.V_drew)); exact HL273_0.out) (Kd.R_base ho0) hb); have n7_ := Aside0.mk (Kd.V_elder' (by (with_reducible repeat (first | apply Kd.V_alloc | apply Kd.V_drewN | apply Kd.V_drew)); exact HL276_0.out) (Kd.R_base ho0) hb); have n8_ := Aside0.mk (Kd.R_lower (Kd.R_newM (M := fun k_ => (w.heap.size ≤ k_)) ho0 (below_size (by repeat (first | exact HB.out | apply below_alloc | apply pw_below_drewN | apply below_drew1))) (fun k_ h_ => h_)) (below_size (by repeat (first | exact HB.out | apply below_alloc | apply pw_below_drewN | apply below_drew1)))); have n9_ := Aside0.mk (Kd.C_below (by repeat (first | (with_reducible exact HR273_0.out) | (with_reducible refine Kd.C_alloc ?_ _) | (with_reducible refine Kd.C_drewN ?_ _) | (with_reducible refine Kd.C_drew ?_) | exact HR273_0.out)) hb); have n10_ := Aside0.mk (Kd.C_below (by repeat (first | (with_reducible exact HR276_0.out) | (with_reducible refine Kd.C_alloc ?_ _) | (with_reducible refine Kd.C_drewN ?_ _) | (with_reducible refine Kd.C_drew ?_) | exact HR276_0.out)) hb); have n11_ := Aside0.mk (below_step (by repeat (first | exact HB.out | apply below_alloc | apply pw_below_drewN | apply below_drew1)) hb); clear HO_5; clear HO_7; clear HL265_0; clear HL266_0; clear HL269_0; clear HL270_0; clear HL273_0; clear HL276_0; clear HR273_0; clear HR276_0; clear HB; have HO_5 := n0_; have HO_7 := n1_; have HL265_0 := n2_; have HL266_0 := n3_; have HL269_0 := n4_; have HL270_0 := n5_; have HL273_0 := n6_; have HL276_0 := n7_; have HO279 := n8_; have HR273_0 := n9_; have HR276_0 := n10_; have HB := n11_; clear n0_ n1_ n2_ n3_ n4_ n5_ n6_ n7_ n8_ n9_ n10_ n11_; (try clear hb); (try clear hk); (try clear ho0); have p49 : 0 ≤ (x8_3 : Int) := of_decide_eq_true (by assumption); have q49 : (x8_3 : Int) < ((x5_3.length : Int) : Int) := of_decide_eq_true (by assumption); obtain ⟨ce49, hcl49, hM49, hcc49, hfr49⟩ := Kd.N_elem HO_5.out [] (x8_3 : Int) p49 q49; obtain ⟨ua49_0, uc49_0, rfl, ul49_0, ge49_0⟩ := Kd.FK_slice_open hM49; have hx49_0 := hcc49 0 _ rfl; have hf49_0 := hfr49 0; (try simp only [show ((Kd.slice 3 (Kd.int .i64))).sz = 1 from rfl, Nat.mul_one, Nat.add_zero] at hx49_0); (try simp only [show ((Kd.slice 3 (Kd.int .i64))).sz = 1 from rfl, Nat.mul_one, Nat.add_zero] at hf49_0); (try clear hM49); clear hcl49 hcc49 hfr49; replace p49 := eq_true p49; replace q49 := eq_true q49; obtain ⟨Ao65, co65, eo65⟩ := Kd.R_slice HO279.out; subst eo65; have n_ := Aside0.mk (Kd.N_mono (ok' := (fun k_ => (w.heap.size ≤ k_) ∧ some k_ ≠ (.slice (some ⟨go44, 0, none⟩) x7_3.length co57 : Value).ownBlock ∧ some k_ ≠ (.slice Ao65 t277.length co65 : Value).ownBlock)) HO_5.out (fun k_ hk => ⟨hk.1.1, ⟨hk.1.2, hk.2⟩⟩)); clear HO_5; have HO_5 := n_; clear n_; have HX63 := Aside0.mk (show Kd.N (Kd.slice 3 (Kd.int .i64)) 43 w62 w.heap.size (fun k_ => (w.heap.size ≤ k_) ∧ some k_ ≠ (.slice (some ⟨go44, 0, none⟩) x7_3.length co57 : Value).ownBlock) (.slice (some ⟨go40, 0, none⟩) x5_3.length co52) y268 from (by (with_reducible repeat (first | apply Kd.N_alloc | apply Kd.N_drewN | apply Kd.N_drew)); exact Kd.N_mono HO_5.out (fun _ hk => ⟨hk.1, hk.2.1⟩))); obtain ⟨ce63, hcl63, hM63, hcc63, hfr63⟩ := Kd.N_elem HX63.out [] (x8_3 : Int) (of_decide_eq_true (by assumption)) (by have h_ : (x8_3 : Int) < ((x5_3.length : Int) : Int) := of_decide_eq_true (by assumption); first | exact h_ | (have e_ := (Kd.N_reads' HO_5.out).1; omega) | simpa using h_); obtain ⟨ua63_0, uc63_0, rfl, ul63_0, ge63_0⟩ := Kd.FK_slice_open hM63; have HP63 := Kd.N_seg HX63.out (x8_3 : Int) (of_decide_eq_true (by assumption)) (by have h_ : (x8_3 : Int) < ((x5_3.length : Int) : Int) := of_decide_eq_true (by assumption); first | exact h_ | (have e_ := (Kd.N_reads' HO_5.out).1; omega) | simpa using h_) (seg := [.slice Ao65 t277.length co65]) (j := 0) hcl63 hcc63 (show 1 ≤ 1 from by decide) (x' := t277) (Kd.FK_slice_mk (Kd.R_reads' (Kd.R_mono (ok' := (fun k_ => ((fun k_ => (w.heap.size ≤ k_) ∧ some k_ ≠ (.slice (some ⟨go44, 0, none⟩) x7_3.length co57 : Value).ownBlock)) k_ ∧ k_ ≠ go40)) (Kd.R_apart' (Kd.R_apart' (HO279.out) (Kd.N_typed HO_7.out) (by decide)) (Kd.N_typed HO_5.out) (by decide)) (fun k_ hk => ⟨⟨hk.1.1.1, hk.1.2⟩, fun e_ => (hk.2) (by rw [e_]; rfl)⟩))).2.1 (Kd.R_F (Kd.R_mono (ok' := (fun k_ => ((fun k_ => (w.heap.size ≤ k_) ∧ some k_ ≠ (.slice (some ⟨go44, 0, none⟩) x7_3.length co57 : Value).ownBlock)) k_ ∧ k_ ≠ go40)) (Kd.R_apart' (Kd.R_apart' (HO279.out) (Kd.N_typed HO_7.out) (by decide)) (Kd.N_typed HO_5.out) (by decide)) (fun k_ hk => ⟨⟨hk.1.1.1, hk.1.2⟩, fun e_ => (hk.2) (by rw [e_]; rfl)⟩)))) (fun _ hk => hk); have hx63_0 := hcc63 0 _ rfl; (try simp only [show ((Kd.slice 3 (Kd.int .i64))).sz = 1 from rfl, Nat.mul_one, Nat.add_zero] at hx63_0); have hf63_0 := hfr63 0; (try simp only [show ((Kd.slice 3 (Kd.int .i64))).sz = 1 from rfl, Nat.mul_one, Nat.add_zero] at hf63_0); (try clear hM63); clear hcl63 hcc63 hfr63; (try simp only [show ((Kd.slice 3 (Kd.int .i64))).sz = 1 from rfl, Nat.mul_one, Nat.add_zero] at HP63); (try simp only [show ((Kd.slice 3 (Kd.int .i64))).sz = 1 from rfl, Nat.mul_one, Nat.add_zero] at HP63)) | ((with_reducible refine gate_store (t := 43) (p := 118) rfl ?_); refine store_event (t := 43) (p := 118) (v := ?vo_w64) (w1 := (w62.setCell ⟨go40, (x8_3 : Int).toNat, none⟩ (.slice Ao65 t277.length co65))) ?hg ?ho ?hn ?hr ?_; (case ho => rfl); (case hg => rfl); (case hn => rfl); (case hr => first | (go_simp; done) | (go_simp; rfl)); intro w64 hw; have hg : w62.grownBy w64 (some go40) := (by rw [hw]; exact HP63.2); have hp_ : Kd.N (Kd.slice 3 (Kd.int .i64)) 43 w64 w.heap.size (fun k_ => (w.heap.size ≤ k_) ∧ some k_ ≠ (.slice (some ⟨go44, 0, none⟩) x7_3.length co57 : Value).ownBlock) (.slice (some ⟨go40, 0, none⟩) x5_3.length co52) y280 := (by rw [hw, Ny280.out]; exact HP63.1); clear HP63; have n0_ := Aside0.mk (hp_); have n1_ := Aside0.mk (Kd.N_afterv (v := (.slice (some ⟨go40, 0, none⟩) x5_3.length co52)) (v1 := (.slice (some ⟨go40, 0, none⟩) x5_3.length co52)) (ok := (fun k_ => (w.heap.size ≤ k_) ∧ some k_ ≠ (.slice Ao65 t277.length co65 : Value).ownBlock)) (by (with_reducible repeat (first | apply Kd.N_alloc | apply Kd.N_drewN | apply Kd.N_drew)); exact Kd.N_mono HO_7.out (fun _ hk => ⟨⟨hk.1.1, hk.2⟩, hk.1.2⟩)) hg (.inl rfl)); have n2_ := Aside0.mk (Kd.V_afterv (v := (.slice (some ⟨go40, 0, none⟩) x5_3.length co52)) (v1 := (.slice (some ⟨go40, 0, none⟩) x5_3.length co52)) (ok := (fun k_ => (w.heap.size ≤ k_) ∧ some k_ ≠ (.slice (some ⟨go44, 0, none⟩) x7_3.length co57 : Value).ownBlock ∧ some k_ ≠ (.slice Ao65 t277.length co65 : Value).ownBlock)) (by (with_reducible repeat (first | apply Kd.V_alloc | apply Kd.V_drewN | apply Kd.V_drew)); exact Kd.V_mono HL265_0.out (fun _ hk => by first | exact ⟨⟨hk.1.1.1, ⟨hk.1.2, hk.2⟩⟩, hk.1.1.2⟩ | (repeat' (first | exact hk.1 | exact hk.2 | exact hk.1.1 | exact hk.1.2 | exact hk.2.1 | exact hk.2.2 | exact hk.1.1.1 | exact hk.1.1.2 | exact hk.1.2.1 | exact hk.1.2.2 | exact hk.2.1.1 | exact hk.2.1.2 | exact hk.2.2.1 | exact hk.2.2.2 | exact hk.1.1.1.1 | exact hk.1.1.1.2 | exact hk.1.1.2.1 | exact hk.1.1.2.2 | exact hk.1.2.1.1 | exact hk.1.2.1.2 | exact hk.1.2.2.1 | exact hk.1.2.2.2 | exact hk.2.1.1.1 | exact hk.2.1.1.2 | exact hk.2.1.2.1 | exact hk.2.1.2.2 | exact hk.2.2.1.1 | exact hk.2.2.1.2 | exact hk.2.2.2.1 | exact hk.2.2.2.2 | constructor)))) hg (.inl rfl)); have n3_ := Aside0.mk (Kd.V_afterv (v := (.slice (some ⟨go40, 0, none⟩) x5_3.length co52)) (v1 := (.slice (some ⟨go40, 0, none⟩) x5_3.length co52)) (ok := (fun k_ => (w.heap.size ≤ k_) ∧ some k_ ≠ (.slice (some ⟨go44, 0, none⟩) x7_3.length co57 : Value).ownBlock ∧ some k_ ≠ (.slice Ao65 t277.length co65 : Value).ownBlock)) (by (with_reducible repeat (first | apply Kd.V_alloc | apply Kd.V_drewN | apply Kd.V_drew)); exact Kd.V_mono HL266_0.out (fun _ hk => by first | exact ⟨⟨hk.1.1.1, ⟨hk.1.2, hk.2⟩⟩, hk.1.1.2⟩ | (repeat' (first | exact hk.1 | exact hk.2 | exact hk.1.1 | exact hk.1.2 | exact hk.2.1 | exact hk.2.2 | exact hk.1.1.1 | exact hk.1.1.2 | exact hk.1.2.1 | exact hk.1.2.2 | exact hk.2.1.1 | exact hk.2.1.2 | exact hk.2.2.1 | exact hk.2.2.2 | exact hk.1.1.1.1 | exact hk.1.1.1.2 | exact hk.1.1.2.1 | exact hk.1.1.2.2 | exact hk.1.2.1.1 | exact hk.1.2.1.2 | exact hk.1.2.2.1 | exact hk.1.2.2.2 | exact hk.2.1.1.1 | exact hk.2.1.1.2 | exact hk.2.1.2.1 | exact hk.2.1.2.2 | exact hk.2.2.1.1 | exact hk.2.2.1.2 | exact hk.2.2.2.1 | exact hk.2.2.2.2 | constructor)))) hg (.inl rfl)); have n4_ := Aside0.mk (Kd.V_afterv (v := (.slice (some ⟨go40, 0, none⟩) x5_3.length co52)) (v1 := (.slice (some ⟨go40, 0, none⟩) x5_3.length co52)) (ok := (fun k_ => (w.heap.size ≤ k_) ∧ some k_ ≠ (.slice (some ⟨go44, 0, none⟩) x7_3.length co57 : Value).ownBlock ∧ some k_ ≠ (.slice Ao65 t277.length co65 : Value).ownBlock)) (by (with_reducible repeat (first | apply Kd.V_alloc | apply Kd.V_drewN | apply Kd.V_drew)); exact Kd.V_mono HL269_0.out (fun _ hk => by first | exact ⟨⟨hk.1.1.1, ⟨hk.1.2, hk.2⟩⟩, hk.1.1.2⟩ | (repeat' (first | exact hk.1 | exact hk.2 | exact hk.1.1 | exact hk.1.2 | exact hk.2.1 | exact hk.2.2 | exact hk.1.1.1 | exact hk.1.1.2 | exact hk.1.2.1 | exact hk.1.2.2 | exact hk.2.1.1 | exact hk.2.1.2 | exact hk.2.2.1 | exact hk.2.2.2 | exact hk.1.1.1.1 | exact hk.1.1.1.2 | exact hk.1.1.2.1 | exact hk.1.1.2.2 | exact hk.1.2.1.1 | exact hk.1.2.1.2 | exact hk.1.2.2.1 | exact hk.1.2.2.2 | exact hk.2.1.1.1 | exact hk.2.1.1.2 | exact hk.2.1.2.1 | exact hk.2.1.2.2 | exact hk.2.2.1.1 | exact hk.2.2.1.2 | exact hk.2.2.2.1 | exact hk.2.2.2.2 | constructor)))) hg (.inl rfl)); have n5_ := Aside0.mk (Kd.V_afterv (v := (.slice (some ⟨go40, 0, none⟩) x5_3.length co52)) (v1 := (.slice (some ⟨go40, 0, none⟩) x5_3.length co52)) (ok := (fun k_ => (w.heap.size ≤ k_) ∧ some k_ ≠ (.slice (some ⟨go44, 0, none⟩) x7_3.length co57 : Value).ownBlock ∧ some k_ ≠ (.slice Ao65 t277.length co65 : Value).ownBlock)) (by (with_reducible repeat (first | apply Kd.V_alloc | apply Kd.V_drewN | apply Kd.V_drew)); exact Kd.V_mono HL270_0.out (fun _ hk => by first | exact ⟨⟨hk.1.1.1, ⟨hk.1.2, hk.2⟩⟩, hk.1.1.2⟩ | (repeat' (first | exact hk.1 | exact hk.2 | exact hk.1.1 | exact hk.1.2 | exact hk.2.1 | exact hk.2.2 | exact hk.1.1.1 | exact hk.1.1.2 | exact hk.1.2.1 | exact hk.1.2.2 | exact hk.2.1.1 | exact hk.2.1.2 | exact hk.2.2.1 | exact hk.2.2.2 | exact hk.1.1.1.1 | exact hk.1.1.1.2 | exact hk.1.1.2.1 | exact hk.1.1.2.2 | exact hk.1.2.1.1 | exact hk.1.2.1.2 | exact hk.1.2.2.1 | exact hk.1.2.2.2 | exact hk.2.1.1.1 | exact hk.2.1.1.2 | exact hk.2.1.2.1 | exact hk.2.1.2.2 | exact hk.2.2.1.1 | exact hk.2.2.1.2 | exact hk.2.2.2.1 | exact hk.2.2.2.2 | constructor)))) hg (.inl rfl)); have n6_ := Aside0.mk (Kd.V_afterv (v := (.slice (some ⟨go40, 0, none⟩) x5_3.length co52)) (v1 := (.slice (some ⟨go40, 0, none⟩) x5_3.length co52)) (ok := (fun k_ => (w.heap.size ≤ k_) ∧ some k_ ≠ (.slice (some ⟨go44, 0, none⟩) x7_3.length co57 : Value).ownBlock ∧ some k_ ≠ (.slice Ao65 t277.length co65 : Value).ownBlock)) (by (with_reducible repeat (first | apply Kd.V_alloc | apply Kd.V_drewN | apply Kd.V_drew)); exact Kd.V_mono HL273_0.out (fun _ hk => by first | exact ⟨⟨hk.1.1.1, ⟨hk.1.1.2, hk.2⟩⟩, hk.1.2⟩ | (repeat' (first | exact hk.1 | exact hk.2 | exact hk.1.1 | exact hk.1.2 | exact hk.2.1 | exact hk.2.2 | exact hk.1.1.1 | exact hk.1.1.2 | exact hk.1.2.1 | exact hk.1.2.2 | exact hk.2.1.1 | exact hk.2.1.2 | exact hk.2.2.1 | exact hk.2.2.2 | exact hk.1.1.1.1 | exact hk.1.1.1.2 | exact hk.1.1.2.1 | exact hk.1.1.2.2 | exact hk.1.2.1.1 | exact hk.1.2.1.2 | exact hk.1.2.2.1 | exact hk.1.2.2.2 | exact hk.2.1.1.1 | exact hk.2.1.1.2 | exact hk.2.1.2.1 | exact hk.2.1.2.2 | exact hk.2.2.1.1 | exact hk.2.2.1.2 | exact hk.2.2.2.1 | exact hk.2.2.2.2 | constructor)))) hg (.inl rfl)); have n7_ := Aside0.mk (Kd.V_afterv (v := (.slice (some ⟨go40, 0, none⟩) x5_3.length co52)) (v1 := (.slice (some ⟨go40, 0, none⟩) x5_3.length co52)) (ok := (fun k_ => (w.heap.size ≤ k_) ∧ some k_ ≠ (.slice (some ⟨go44, 0, none⟩) x7_3.length co57 : Value).ownBlock ∧ some k_ ≠ (.slice Ao65 t277.length co65 : Value).ownBlock)) (by (with_reducible repeat (first | apply Kd.V_alloc | apply Kd.V_drewN | apply Kd.V_drew)); exact Kd.V_mono HL276_0.out (fun _ hk => by first | exact ⟨⟨hk.1.1.1, ⟨hk.1.1.2, hk.2⟩⟩, hk.1.2⟩ | (repeat' (first | exact hk.1 | exact hk.2 | exact hk.1.1 | exact hk.1.2 | exact hk.2.1 | exact hk.2.2 | exact hk.1.1.1 | exact hk.1.1.2 | exact hk.1.2.1 | exact hk.1.2.2 | exact hk.2.1.1 | exact hk.2.1.2 | exact hk.2.2.1 | exact hk.2.2.2 | exact hk.1.1.1.1 | exact hk.1.1.1.2 | exact hk.1.1.2.1 | exact hk.1.1.2.2 | exact hk.1.2.1.1 | exact hk.1.2.1.2 | exact hk.1.2.2.1 | exact hk.1.2.2.2 | exact hk.2.1.1.1 | exact hk.2.1.1.2 | exact hk.2.1.2.1 | exact hk.2.1.2.2 | exact hk.2.2.1.1 | exact hk.2.2.1.2 | exact hk.2.2.2.1 | exact hk.2.2.2.2 | constructor)))) hg (.inl rfl)); have n8_ := Aside0.mk ((by rw [hw]; exact below_set (HB.out) GB40.out : Below w.heap.size w w64)); clear HO_5; clear HO_7; clear HL265_0; clear HL266_0; clear HL269_0; clear HL270_0; clear HL273_0; clear HL276_0; clear HB; clear HO279; have HO_5 := n0_; have HO_7 := n1_; have HL265_0 := n2_; have HL266_0 := n3_; have HL269_0 := n4_; have HL270_0 := n5_; have HL273_0 := n6_; have HL276_0 := n7_; have HB := n8_; clear n0_ n1_ n2_ n3_ n4_ n5_ n6_ n7_ n8_; clear hg hw hp_; have p281 : 0 ≤ (x8_3 : Int) := of_decide_eq_true (by assumption); have q281 : x8_3 < (y272.length : Int) := (by have h_ : (x8_3 : Int) < ((x7_3.length : Int) : Int) := of_decide_eq_true (by assumption); first | (have e_ := (Kd.N_reads' HO_7.out).1; omega) | simpa only [Ny271.out, Ny272.out, List.length_set] using h_); have ql281 : ((x8_3 : Int) < ((x7_3.length : Int) : Int)) = True := eq_true (of_decide_eq_true (by assumption)); obtain ⟨ad281, A281_0, c281_0, e281, hx281_0, hl281_0, hi281_0⟩ := at_L2 (Kd.N_reads' HO_7.out).2.2 x8_3 p281 q281; obtain rfl : (⟨go44, 0, none⟩ : Addr) = ad281 := (by injection e281); obtain ⟨ce281, hce281, hMe281, hcc281⟩ := Kd.N_get HO_7.out [] x8_3 p281 (by first | exact q281 | exact of_decide_eq_true (by assumption) | (have e_ := (Kd.N_reads' HO_7.out).1; omega)); obtain ⟨ua281_0, uc281_0, rfl, ul281_0, ge281_0⟩ := Kd.FK_slice_open hMe281; have hv281_0 := hcc281 0 _ rfl; rw [Nat.add_zero, show ((Kd.slice 3 (Kd.int .i64))).sz = 1 from rfl, Nat.mul_one] at hv281_0; replace hv281_0 := Option.some.inj (hv281_0.symm.trans hx281_0); injection hv281_0 with hva_ hvn_ hvc_; rw [hva_] at ge281_0; rw [hvc_] at ul281_0; have HL281_0 := Aside0.mk (show Kd.V (Kd.int .i64) 3 _ w.heap.size _ _ (rd_L2 y272 x8_3) from Kd.V_mk ul281_0 ge281_0); clear hva_ hvn_ hvc_ ge281_0 ul281_0; clear hcc281 hce281; (first | simp only [add_plain] at hx281_0 | simp only [add_at] at hx281_0 | simp only [Addr.add, Nat.zero_add] at hx281_0 | skip); have HR281_0 := Aside0.mk hi281_0; have HC281_0 := Aside0.mk hl281_0; clear hi281_0 hl281_0; replace p281 := eq_true p281; replace q281 := eq_true q281) | ((with_reducible refine gate_callee (f := 63) rfl ?_); refine goesL_ (some 126) rfl rfl Try.func63 (by kernel_rfl) rfl #[.slice A281_0 (rd_L2 y272 x8_3).length c281_0, .int .i64 t275] rfl (by (try simp only [List.map_toArray, List.map_cons, List.map_nil]); first | done | rfl) ?_; (with_reducible refine (spec_l06Times.calls kj23 _ _ (rd_L2 y272 x8_3) t275 t282 _ ?side1 ?side2 A50.out).mono ?_); (case side1 => repeat (first | exact (by repeat (first | (with_reducible exact HR281_0.out) | (with_reducible refine Kd.C_alloc ?_ _) | (with_reducible refine Kd.C_drewN ?_ _) | (with_reducible refine Kd.C_drew ?_) | exact HR281_0.out)) | (with_reducible refine Kd.C_alloc ?_ _) | (with_reducible refine Kd.C_drewN ?_ _) | (with_reducible refine Kd.C_drew ?_))); (case side2 => exact HC281_0.out); rintro e w66 ⟨v283, rfl, ho0, hb⟩; refine ⟨_, rfl, ?_⟩; have n0_ := Aside0.mk (Kd.N_elder' (by (with_reducible repeat (first | apply Kd.N_alloc | apply Kd.N_drewN | apply Kd.N_drew)); exact HO_5.out) (Kd.R_base ho0) hb); have n1_ := Aside0.mk (Kd.N_elder' (by (with_reducible repeat (first | apply Kd.N_alloc | apply Kd.N_drewN | apply Kd.N_drew)); exact HO_7.out) (Kd.R_base ho0) hb); have n2_ := Aside0.mk (Kd.V_elder' (by (with_reducible repeat (first | apply Kd.V_alloc | apply Kd.V_drewN | apply Kd.V_drew)); exact HL265_0.out) (Kd.R_base ho0) hb); have n3_ := Aside0.mk (Kd.V_elder' (by (with_reducible repeat (first | apply Kd.V_alloc | apply Kd.V_drewN | apply Kd.V_drew)); exact HL266_0.out) (Kd.R_base ho0) hb); have n4_ := Aside0.mk (Kd.V_elder' (by (with_reducible repeat (first | apply Kd.V_alloc | apply Kd.V_drewN | apply Kd.V_drew)); exact HL269_0.out) (Kd.R_base ho0) hb); have n5_ := Aside0.mk (Kd.V_elder' (by (with_reducible repeat (first | apply Kd.V_alloc | apply Kd.V_drewN | apply Kd.V_drew)); exact HL270_0.out) (Kd.R_base ho0) hb); have n6_ := Aside0.mk (Kd.V_elder' (by (with_reducible repeat (first | apply Kd.V_alloc | apply Kd.V_drewN | apply Kd.V_drew)); exact HL273_0.out) (Kd.R_base ho0) hb); have n7_ := Aside0.mk (Kd.V_elder' (by (with_reducible repeat (first | apply Kd.V_alloc | apply Kd.V_drewN | apply Kd.V_drew)); exact HL276_0.out) (Kd.R_base ho0) hb); have n8_ := Aside0.mk (Kd.V_elder' (by (with_reducible repeat (first | apply Kd.V_alloc | apply Kd.V_drewN | apply Kd.V_drew)); exact HL281_0.out) (Kd.R_base ho0) hb); have n9_ := Aside0.mk (Kd.R_lower (Kd.R_newM (M := fun k_ => (w.heap.size ≤ k_)) ho0 (below_size (by repeat (first | exact HB.out | apply below_alloc | apply pw_below_drewN | apply below_drew1))) (fun k_ h_ => h_)) (below_size (by repeat (first | exact HB.out | apply below_alloc | apply pw_below_drewN | apply below_drew1)))); have n10_ := Aside0.mk (Kd.C_below (by repeat (first | (with_reducible exact HR281_0.out) | (with_reducible refine Kd.C_alloc ?_ _) | (with_reducible refine Kd.C_drewN ?_ _) | (with_reducible refine Kd.C_drew ?_) | exact HR281_0.out)) hb); have n11_ := Aside0.mk (below_step (by repeat (first | exact HB.out | apply below_alloc | apply pw_below_drewN | apply below_drew1)) hb); clear HO_5; clear HO_7; clear HL265_0; clear HL266_0; clear HL269_0; clear HL270_0; clear HL273_0; clear HL276_0; clear HL281_0; clear HR281_0; clear HB; have HO_5 := n0_; have HO_7 := n1_; have HL265_0 := n2_; have HL266_0 := n3_; have HL269_0 := n4_; have HL270_0 := n5_; have HL273_0 := n6_; have HL276_0 := n7_; have HL281_0 := n8_; have HO284 := n9_; have HR281_0 := n10_; have HB := n11_; clear n0_ n1_ n2_ n3_ n4_ n5_ n6_ n7_ n8_ n9_ n10_ n11_; (try clear hb); (try clear hk); (try clear ho0); have p51 : 0 ≤ (x8_3 : Int) := of_decide_eq_true (by assumption); have q51 : (x8_3 : Int) < ((x7_3.length : Int) : Int) := of_decide_eq_true (by assumption); obtain ⟨ce51, hcl51, hM51, hcc51, hfr51⟩ := Kd.N_elem HO_7.out [] (x8_3 : Int) p51 q51; obtain ⟨ua51_0, uc51_0, rfl, ul51_0, ge51_0⟩ := Kd.FK_slice_open hM51; have hx51_0 := hcc51 0 _ rfl; have hf51_0 := hfr51 0; (try simp only [show ((Kd.slice 3 (Kd.int .i64))).sz = 1 from rfl, Nat.mul_one, Nat.add_zero] at hx51_0); (try simp only [show ((Kd.slice 3 (Kd.int .i64))).sz = 1 from rfl, Nat.mul_one, Nat.add_zero] at hf51_0); (try clear hM51); clear hcl51 hcc51 hfr51; replace p51 := eq_true p51; replace q51 := eq_true q51; obtain ⟨Ao69, co69, eo69⟩ := Kd.R_slice HO284.out; subst eo69; have n_ := Aside0.mk (Kd.N_mono (ok' := (fun k_ => (w.heap.size ≤ k_) ∧ some k_ ≠ (.slice (some ⟨go40, 0, none⟩) x5_3.length co52 : Value).ownBlock ∧ some k_ ≠ (.slice Ao69 t282.length co69 : Value).ownBlock)) HO_7.out (fun k_ hk => ⟨hk.1.1.1, ⟨hk.1.2, hk.2⟩⟩)); clear HO_7; have HO_7 := n_; clear n_; have HX67 := Aside0.mk (show Kd.N (Kd.slice 3 (Kd.int .i64)) 43 w66 w.heap.size (fun k_ => (w.heap.size ≤ k_) ∧ some k_ ≠ (.slice (some ⟨go40, 0, none⟩) x5_3.length co52 : Value).ownBlock) (.slice (some ⟨go44, 0, none⟩) x7_3.length co57) y272 from (by (with_reducible repeat (first | apply Kd.N_alloc | apply Kd.N_drewN | apply Kd.N_drew)); exact Kd.N_mono HO_7.out (fun _ hk => ⟨hk.1, hk.2.1⟩))); obtain ⟨ce67, hcl67, hM67, hcc67, hfr67⟩ := Kd.N_elem HX67.out [] (x8_3 : Int) (of_decide_eq_true (by assumption)) (by have h_ : (x8_3 : Int) < ((x7_3.length : Int) : Int) := of_decide_eq_true (by assumption); first | exact h_ | (have e_ := (Kd.N_reads' HO_7.out).1; omega) | simpa using h_); obtain ⟨ua67_0, uc67_0, rfl, ul67_0, ge67_0⟩ := Kd.FK_slice_open hM67; have HP67 := Kd.N_seg HX67.out (x8_3 : Int) (of_decide_eq_true (by assumption)) (by have h_ : (x8_3 : Int) < ((x7_3.length : Int) : Int) := of_decide_eq_true (by assumption); first | exact h_ | (have e_ := (Kd.N_reads' HO_7.out).1; omega) | simpa using h_) (seg := [.slice Ao69 t282.length co69]) (j := 0) hcl67 hcc67 (show 1 ≤ 1 from by decide) (x' := t282) (Kd.FK_slice_mk (Kd.R_reads' (Kd.R_mono (ok' := (fun k_ => ((fun k_ => (w.heap.size ≤ k_) ∧ some k_ ≠ (.slice (some ⟨go40, 0, none⟩) x5_3.length co52 : Value).ownBlock)) k_ ∧ k_ ≠ go44)) (Kd.R_apart' (Kd.R_apart' (HO284.out) (Kd.N_typed HO_5.out) (by decide)) (Kd.N_typed HO_7.out) (by decide)) (fun k_ hk => ⟨⟨hk.1.1.1, hk.1.2⟩, fun e_ => (hk.2) (by rw [e_]; rfl)⟩))).2.1 (Kd.R_F (Kd.R_mono (ok' := (fun k_ => ((fun k_ => (w.heap.size ≤ k_) ∧ some k_ ≠ (.slice (some ⟨go40, 0, none⟩) x5_3.length co52 : Value).ownBlock)) k_ ∧ k_ ≠ go44)) (Kd.R_apart' (Kd.R_apart' (HO284.out) (Kd.N_typed HO_5.out) (by decide)) (Kd.N_typed HO_7.out) (by decide)) (fun k_ hk => ⟨⟨hk.1.1.1, hk.1.2⟩, fun e_ => (hk.2) (by rw [e_]; rfl)⟩)))) (fun _ hk => hk); have hx67_0 := hcc67 0 _ rfl; (try simp only [show ((Kd.slice 3 (Kd.int .i64))).sz = 1 from rfl, Nat.mul_one, Nat.add_zero] at hx67_0); have hf67_0 := hfr67 0; (try simp only [show ((Kd.slice 3 (Kd.int .i64))).sz = 1 from rfl, Nat.mul_one, Nat.add_zero] at hf67_0); (try clear hM67); clear hcl67 hcc67 hfr67; (try simp only [show ((Kd.slice 3 (Kd.int .i64))).sz = 1 from rfl, Nat.mul_one, Nat.add_zero] at HP67); (try simp only [show ((Kd.slice 3 (Kd.int .i64))).sz = 1 from rfl, Nat.mul_one, Nat.add_zero] at HP67)) | ((with_reducible refine gate_store (t := 43) (p := 127) rfl ?_); refine store_event (t := 43) (p := 127) (v := ?vo_w68) (w1 := (w66.setCell ⟨go44, (x8_3 : Int).toNat, none⟩ (.slice Ao69 t282.length co69))) ?hg ?ho ?hn ?hr ?_; (case ho => rfl); (case hg => rfl); (case hn => rfl); (case hr => first | (go_simp; done) | (go_simp; rfl)); intro w68 hw; have hg : w66.grownBy w68 (some go44) := (by rw [hw]; exact HP67.2); have hp_ : Kd.N (Kd.slice 3 (Kd.int .i64)) 43 w68 w.heap.size (fun k_ => (w.heap.size ≤ k_) ∧ some k_ ≠ (.slice (some ⟨go40, 0, none⟩) x5_3.length co52 : Value).ownBlock) (.slice (some ⟨go44, 0, none⟩) x7_3.length co57) y285 := (by rw [hw, Ny285.out]; exact HP67.1); clear HP67; have n0_ := Aside0.mk (Kd.N_afterv (v := (.slice (some ⟨go44, 0, none⟩) x7_3.length co57)) (v1 := (.slice (some ⟨go44, 0, none⟩) x7_3.length co57)) (ok := (fun k_ => (w.heap.size ≤ k_) ∧ some k_ ≠ (.slice Ao69 t282.length co69 : Value).ownBlock)) (by (with_reducible repeat (first | apply Kd.N_alloc | apply Kd.N_drewN | apply Kd.N_drew)); exact Kd.N_mono HO_5.out (fun _ hk => ⟨⟨hk.1.1, hk.2⟩, hk.1.2⟩)) hg (.inl rfl)); have n1_ := Aside0.mk (hp_); have n2_ := Aside0.mk (Kd.V_afterv (v := (.slice (some ⟨go44, 0, none⟩) x7_3.length co57)) (v1 := (.slice (some ⟨go44, 0, none⟩) x7_3.length co57)) (ok := (fun k_ => (w.heap.size ≤ k_) ∧ some k_ ≠ (.slice (some ⟨go40, 0, none⟩) x5_3.length co52 : Value).ownBlock ∧ some k_ ≠ (.slice Ao69 t282.length co69 : Value).ownBlock)) (by (with_reducible repeat (first | apply Kd.V_alloc | apply Kd.V_drewN | apply Kd.V_drew)); exact Kd.V_mono HL265_0.out (fun _ hk => by first | exact ⟨⟨hk.1.1.1, ⟨hk.1.2, hk.2⟩⟩, hk.1.1.2.1⟩ | (repeat' (first | exact hk.1 | exact hk.2 | exact hk.1.1 | exact hk.1.2 | exact hk.2.1 | exact hk.2.2 | exact hk.1.1.1 | exact hk.1.1.2 | exact hk.1.2.1 | exact hk.1.2.2 | exact hk.2.1.1 | exact hk.2.1.2 | exact hk.2.2.1 | exact hk.2.2.2 | exact hk.1.1.1.1 | exact hk.1.1.1.2 | exact hk.1.1.2.1 | exact hk.1.1.2.2 | exact hk.1.2.1.1 | exact hk.1.2.1.2 | exact hk.1.2.2.1 | exact hk.1.2.2.2 | exact hk.2.1.1.1 | exact hk.2.1.1.2 | exact hk.2.1.2.1 | exact hk.2.1.2.2 | exact hk.2.2.1.1 | exact hk.2.2.1.2 | exact hk.2.2.2.1 | exact hk.2.2.2.2 | constructor)))) hg (.inl rfl)); have n3_ := Aside0.mk (Kd.V_afterv (v := (.slice (some ⟨go44, 0, none⟩) x7_3.length co57)) (v1 := (.slice (some ⟨go44, 0, none⟩) x7_3.length co57)) (ok := (fun k_ => (w.heap.size ≤ k_) ∧ some k_ ≠ (.slice (some ⟨go40, 0, none⟩) x5_3.length co52 : Value).ownBlock ∧ some k_ ≠ (.slice Ao69 t282.length co69 : Value).ownBlock)) (by (with_reducible repeat (first | apply Kd.V_alloc | apply Kd.V_drewN | apply Kd.V_drew)); exact Kd.V_mono HL266_0.out (fun _ hk => by first | exact ⟨⟨hk.1.1.1, ⟨hk.1.2, hk.2⟩⟩, hk.1.1.2.1⟩ | (repeat' (first | exact hk.1 | exact hk.2 | exact hk.1.1 | exact hk.1.2 | exact hk.2.1 | exact hk.2.2 | exact hk.1.1.1 | exact hk.1.1.2 | exact hk.1.2.1 | exact hk.1.2.2 | exact hk.2.1.1 | exact hk.2.1.2 | exact hk.2.2.1 | exact hk.2.2.2 | exact hk.1.1.1.1 | exact hk.1.1.1.2 | exact hk.1.1.2.1 | exact hk.1.1.2.2 | exact hk.1.2.1.1 | exact hk.1.2.1.2 | exact hk.1.2.2.1 | exact hk.1.2.2.2 | exact hk.2.1.1.1 | exact hk.2.1.1.2 | exact hk.2.1.2.1 | exact hk.2.1.2.2 | exact hk.2.2.1.1 | exact hk.2.2.1.2 | exact hk.2.2.2.1 | exact hk.2.2.2.2 | constructor)))) hg (.inl rfl)); have n4_ := Aside0.mk (Kd.V_afterv (v := (.slice (some ⟨go44, 0, none⟩) x7_3.length co57)) (v1 := (.slice (some ⟨go44, 0, none⟩) x7_3.length co57)) (ok := (fun k_ => (w.heap.size ≤ k_) ∧ some k_ ≠ (.slice (some ⟨go40, 0, none⟩) x5_3.length co52 : Value).ownBlock ∧ some k_ ≠ (.slice Ao69 t282.length co69 : Value).ownBlock)) (by (with_reducible repeat (first | apply Kd.V_alloc | apply Kd.V_drewN | apply Kd.V_drew)); exact Kd.V_mono HL269_0.out (fun _ hk => by first | exact ⟨⟨hk.1.1.1, ⟨hk.1.2, hk.2⟩⟩, hk.1.1.2.1⟩ | (repeat' (first | exact hk.1 | exact hk.2 | exact hk.1.1 | exact hk.1.2 | exact hk.2.1 | exact hk.2.2 | exact hk.1.1.1 | exact hk.1.1.2 | exact hk.1.2.1 | exact hk.1.2.2 | exact hk.2.1.1 | exact hk.2.1.2 | exact hk.2.2.1 | exact hk.2.2.2 | exact hk.1.1.1.1 | exact hk.1.1.1.2 | exact hk.1.1.2.1 | exact hk.1.1.2.2 | exact hk.1.2.1.1 | exact hk.1.2.1.2 | exact hk.1.2.2.1 | exact hk.1.2.2.2 | exact hk.2.1.1.1 | exact hk.2.1.1.2 | exact hk.2.1.2.1 | exact hk.2.1.2.2 | exact hk.2.2.1.1 | exact hk.2.2.1.2 | exact hk.2.2.2.1 | exact hk.2.2.2.2 | constructor)))) hg (.inl rfl)); have n5_ := Aside0.mk (Kd.V_afterv (v := (.slice (some ⟨go44, 0, none⟩) x7_3.length co57)) (v1 := (.slice (some ⟨go44, 0, none⟩) x7_3.length co57)) (ok := (fun k_ => (w.heap.size ≤ k_) ∧ some k_ ≠ (.slice (some ⟨go40, 0, none⟩) x5_3.length co52 : Value).ownBlock ∧ some k_ ≠ (.slice Ao69 t282.length co69 : Value).ownBlock)) (by (with_reducible repeat (first | apply Kd.V_alloc | apply Kd.V_drewN | apply Kd.V_drew)); exact Kd.V_mono HL270_0.out (fun _ hk => by first | exact ⟨⟨hk.1.1.1, ⟨hk.1.2, hk.2⟩⟩, hk.1.1.2.1⟩ | (repeat' (first | exact hk.1 | exact hk.2 | exact hk.1.1 | exact hk.1.2 | exact hk.2.1 | exact hk.2.2 | exact hk.1.1.1 | exact hk.1.1.2 | exact hk.1.2.1 | exact hk.1.2.2 | exact hk.2.1.1 | exact hk.2.1.2 | exact hk.2.2.1 | exact hk.2.2.2 | exact hk.1.1.1.1 | exact hk.1.1.1.2 | exact hk.1.1.2.1 | exact hk.1.1.2.2 | exact hk.1.2.1.1 | exact hk.1.2.1.2 | exact hk.1.2.2.1 | exact hk.1.2.2.2 | exact hk.2.1.1.1 | exact hk.2.1.1.2 | exact hk.2.1.2.1 | exact hk.2.1.2.2 | exact hk.2.2.1.1 | exact hk.2.2.1.2 | exact hk.2.2.2.1 | exact hk.2.2.2.2 | constructor)))) hg (.inl rfl)); have n6_ := Aside0.mk (Kd.V_afterv (v := (.slice (some ⟨go44, 0, none⟩) x7_3.length co57)) (v1 := (.slice (some ⟨go44, 0, none⟩) x7_3.length co57)) (ok := (fun k_ => (w.heap.size ≤ k_) ∧ some k_ ≠ (.slice (some ⟨go40, 0, none⟩) x5_3.length co52 : Value).ownBlock ∧ some k_ ≠ (.slice Ao69 t282.length co69 : Value).ownBlock)) (by (with_reducible repeat (first | apply Kd.V_alloc | apply Kd.V_drewN | apply Kd.V_drew)); exact Kd.V_mono HL273_0.out (fun _ hk => by first | exact ⟨⟨hk.1.1.1, ⟨hk.1.2, hk.2⟩⟩, hk.1.1.2.1⟩ | (repeat' (first | exact hk.1 | exact hk.2 | exact hk.1.1 | exact hk.1.2 | exact hk.2.1 | exact hk.2.2 | exact hk.1.1.1 | exact hk.1.1.2 | exact hk.1.2.1 | exact hk.1.2.2 | exact hk.2.1.1 | exact hk.2.1.2 | exact hk.2.2.1 | exact hk.2.2.2 | exact hk.1.1.1.1 | exact hk.1.1.1.2 | exact hk.1.1.2.1 | exact hk.1.1.2.2 | exact hk.1.2.1.1 | exact hk.1.2.1.2 | exact hk.1.2.2.1 | exact hk.1.2.2.2 | exact hk.2.1.1.1 | exact hk.2.1.1.2 | exact hk.2.1.2.1 | exact hk.2.1.2.2 | exact hk.2.2.1.1 | exact hk.2.2.1.2 | exact hk.2.2.2.1 | exact hk.2.2.2.2 | constructor)))) hg (.inl rfl)); have n7_ := Aside0.mk (Kd.V_afterv (v := (.slice (some ⟨go44, 0, none⟩) x7_3.length co57)) (v1 := (.slice (some ⟨go44, 0, none⟩) x7_3.length co57)) (ok := (fun k_ => (w.heap.size ≤ k_) ∧ some k_ ≠ (.slice (some ⟨go40, 0, none⟩) x5_3.length co52 : Value).ownBlock ∧ some k_ ≠ (.slice Ao69 t282.length co69 : Value).ownBlock)) (by (with_reducible repeat (first | apply Kd.V_alloc | apply Kd.V_drewN | apply Kd.V_drew)); exact Kd.V_mono HL276_0.out (fun _ hk => by first | exact ⟨⟨hk.1.1.1, ⟨hk.1.2, hk.2⟩⟩, hk.1.1.2.1⟩ | (repeat' (first | exact hk.1 | exact hk.2 | exact hk.1.1 | exact hk.1.2 | exact hk.2.1 | exact hk.2.2 | exact hk.1.1.1 | exact hk.1.1.2 | exact hk.1.2.1 | exact hk.1.2.2 | exact hk.2.1.1 | exact hk.2.1.2 | exact hk.2.2.1 | exact hk.2.2.2 | exact hk.1.1.1.1 | exact hk.1.1.1.2 | exact hk.1.1.2.1 | exact hk.1.1.2.2 | exact hk.1.2.1.1 | exact hk.1.2.1.2 | exact hk.1.2.2.1 | exact hk.1.2.2.2 | exact hk.2.1.1.1 | exact hk.2.1.1.2 | exact hk.2.1.2.1 | exact hk.2.1.2.2 | exact hk.2.2.1.1 | exact hk.2.2.1.2 | exact hk.2.2.2.1 | exact hk.2.2.2.2 | constructor)))) hg (.inl rfl)); have n8_ := Aside0.mk (Kd.V_afterv (v := (.slice (some ⟨go44, 0, none⟩) x7_3.length co57)) (v1 := (.slice (some ⟨go44, 0, none⟩) x7_3.length co57)) (ok := (fun k_ => (w.heap.size ≤ k_) ∧ some k_ ≠ (.slice (some ⟨go40, 0, none⟩) x5_3.length co52 : Value).ownBlock ∧ some k_ ≠ (.slice Ao69 t282.length co69 : Value).ownBlock)) (by (with_reducible repeat (first | apply Kd.V_alloc | apply Kd.V_drewN | apply Kd.V_drew)); exact Kd.V_mono HL281_0.out (fun _ hk => by first | exact ⟨⟨hk.1.1.1.1, ⟨hk.1.1.2, hk.2⟩⟩, hk.1.2⟩ | (repeat' (first | exact hk.1 | exact hk.2 | exact hk.1.1 | exact hk.1.2 | exact hk.2.1 | exact hk.2.2 | exact hk.1.1.1 | exact hk.1.1.2 | exact hk.1.2.1 | exact hk.1.2.2 | exact hk.2.1.1 | exact hk.2.1.2 | exact hk.2.2.1 | exact hk.2.2.2 | exact hk.1.1.1.1 | exact hk.1.1.1.2 | exact hk.1.1.2.1 | exact hk.1.1.2.2 | exact hk.1.2.1.1 | exact hk.1.2.1.2 | exact hk.1.2.2.1 | exact hk.1.2.2.2 | exact hk.2.1.1.1 | exact hk.2.1.1.2 | exact hk.2.1.2.1 | exact hk.2.1.2.2 | exact hk.2.2.1.1 | exact hk.2.2.1.2 | exact hk.2.2.2.1 | exact hk.2.2.2.2 | constructor)))) hg (.inl rfl)); have n9_ := Aside0.mk ((by rw [hw]; exact below_set (HB.out) GB44.out : Below w.heap.size w w68)); clear HO_5; clear HO_7; clear HL265_0; clear HL266_0; clear HL269_0; clear HL270_0; clear HL273_0; clear HL276_0; clear HL281_0; clear HB; clear HO284; have HO_5 := n0_; have HO_7 := n1_; have HL265_0 := n2_; have HL266_0 := n3_; have HL269_0 := n4_; have HL270_0 := n5_; have HL273_0 := n6_; have HL276_0 := n7_; have HL281_0 := n8_; have HB := n9_; clear n0_ n1_ n2_ n3_ n4_ n5_ n6_ n7_ n8_ n9_; clear hg hw hp_))
                    go_loopg [13] kj23 (fun kq v13 w' => ∃ (x5_5 : List (List Int)) (x7_5 : List (List Int)) (x13_5 : Int), v13 = .int .i64 x13_5 ∧ Aside0 (spec_InvM.l3 kq (l0.length : Int) x5_5 x7_5 x8_3 x13_5 = some (r1, r2)) ∧ Aside0 (kq ≤ kj23) ∧ Aside0 (Kd.N (Kd.slice 3 (Kd.int .i64)) 43 w' w.heap.size (fun k_ => (w.heap.size ≤ k_) ∧ some k_ ≠ ((.slice (some ⟨go44, 0, none⟩) x7_3.length co57) : Value).ownBlock) (.slice (some ⟨go40, 0, none⟩) x5_3.length co52) x5_5) ∧ Aside0 (Kd.N (Kd.slice 3 (Kd.int .i64)) 43 w' w.heap.size (fun k_ => (w.heap.size ≤ k_) ∧ some k_ ≠ ((.slice (some ⟨go40, 0, none⟩) x5_3.length co52) : Value).ownBlock) (.slice (some ⟨go44, 0, none⟩) x7_3.length co57) x7_5) ∧ Aside0 (Below w.heap.size w w'))
                    case atStart => exact ⟨(y280), (y285), (0), (by first | rfl | (simp; done) | (simp [*]; done)), H', ⟨Nat.le_refl _⟩, ⟨by (with_reducible repeat (first | apply Kd.N_alloc | apply Kd.N_drewN | apply Kd.N_drew)); exact Kd.N_mono HO_5.out (fun _ hk => ⟨hk.1.1, hk.2⟩)⟩, ⟨by (with_reducible repeat (first | apply Kd.N_alloc | apply Kd.N_drewN | apply Kd.N_drew)); exact HO_7.out⟩, ⟨by repeat (first | exact HB.out | apply below_alloc | apply pw_below_drewN | apply below_drew1)⟩⟩
                    case round =>
                     clear H'
                     try clear c1; try clear c2; try clear p2; try clear q2; try clear hx2; try clear qi2; try clear c3; try clear c4; try clear p4; try clear q4; try clear hx4; try clear hf4; try clear c5; try clear c5b0; try clear c5b1; try clear p5; try clear q5; try clear hx5; try clear hf5; try clear c6; try clear p6; try clear hx6; try clear hf6; try clear c11; try clear c11b0; try clear c12; try clear c12b0; try clear c13; try clear c13b0; try clear c14; try clear c15; try clear c23; try clear c23b0; try clear c24; try clear p24; try clear q24; try clear hx24; try clear qi24; try clear c25; try clear c25b0; try clear p25; try clear q25; try clear hx25; try clear c26; try clear c26b0; try clear p26; try clear q26; try clear hx26; try clear c27; try clear c27b0; try clear p27; try clear q27; try clear hx27; try clear c28; try clear c28b0; try clear p28; try clear q28; try clear hx28; try clear c29; try clear c29b0; try clear c30; try clear c30b0; try clear c30b1; try clear c32; try clear c33; try clear c33b0; try clear c33b1; try clear c34; try clear c36; try clear c36b0; try clear c37; try clear c37b0; try clear c38; try clear c38b0; try clear c39; try clear c39b0; try clear c40; try clear p40; try clear q40; try clear hx40; try clear hf40; try clear c41; try clear p41; try clear q41; try clear hx41; try clear hf41; try clear c42; try clear c42b0; try clear c43; try clear c43b0; try clear c44; try clear p44; try clear q44; try clear hx44; try clear hf44; try clear c45; try clear p45; try clear q45; try clear hx45; try clear hf45; try clear c46; try clear c46b0; try clear c49; try clear p49; try clear q49; try clear hx49; try clear hf49; try clear c51; try clear p51; try clear q51; try clear hx51; try clear hf51; try clear c53; try clear hx53; try clear hf53; try clear c55; try clear hx55; try clear hf55; try clear c58; try clear hx58; try clear hf58; try clear c60; try clear hx60; try clear hf60; try clear c62; try clear c63; try clear hx63; try clear hf63; try clear p64; try clear c67; try clear hx67; try clear hf67; try clear hx240_0; try clear hx250_0; try clear hx260_0; try clear hx261_0; try clear hx265_0; try clear hx266_0; try clear hx269_0; try clear hx270_0; try clear hx273_0; try clear hx274_0; try clear hx276_0; try clear hx281_0; try clear hx40_0; try clear hx41_0; try clear hx44_0; try clear hx45_0; try clear hx49_0; try clear hx51_0; try clear hx53_0; try clear hx55_0; try clear hx58_0; try clear hx60_0; try clear hx63_0; try clear hx67_0; try clear p2; try clear p24; try clear p240; try clear p25; try clear p250; try clear p26; try clear p260; try clear p261; try clear p265; try clear p266; try clear p269; try clear p270; try clear p273; try clear p274; try clear p276; try clear p281; try clear p40; try clear p41; try clear p44; try clear p45; try clear p49; try clear p51; try clear p6; try clear q2; try clear q24; try clear q240; try clear q25; try clear q250; try clear q26; try clear q260; try clear q261; try clear q265; try clear q266; try clear q269; try clear q270; try clear q273; try clear q274; try clear q276; try clear q281; try clear q40; try clear q41; try clear q44; try clear q45; try clear q49; try clear q51
                     obtain ⟨x5_5, x7_5, x13_5, rfl, HA, HK5, HO_5, HO_7, HB⟩ := hrel
                     have hl5_5 := (Kd.N_reads' HO_5.out).1
                     rw [hl5_5] at HO_5
                     (try simp only [hl5_5])
                     (try simp only [hl5_5] at HO_7)
                     have hl7_5 := (Kd.N_reads' HO_7.out).1
                     rw [hl7_5] at HO_7
                     (try simp only [hl7_5])
                     (try simp only [hl7_5] at HO_5)
                     cases gk with
                     | zero => exact absurd HA.out (by simp [spec_InvM.l3])
                     | succ k5 =>
                      have H := HA.out
                      clear HA
                      simp only [spec_InvM.l3] at H
                      by_cases c70 : x13_5 < (l0.length : Int)
                      ·rw [if_pos c70] at H
                       have c70b0 : decide (x13_5 < (l0.length : Int)) = true := decide_eq_true c70
                       clear c70
                       have HC71 := Aside0.mk H
                       clear H
                       go_upto_region 30 with (fail)
                       go_cut [145] (fun v145 wc => ∃ (kq : Nat) (x145_70 : Bool), v145 = .bool x145_70 ∧ Aside0 (spec_InvM.j6 kq (l0.length : Int) x5_5 x7_5 x8_3 x13_5 x145_70 = some (r1, r2)) ∧ Aside0 (kq ≤ k5) ∧ Aside0 (Kd.N (Kd.slice 3 (Kd.int .i64)) 43 wc w.heap.size (fun k_ => (w.heap.size ≤ k_) ∧ some k_ ≠ ((.slice (some ⟨go44, 0, none⟩) x7_5.length co57) : Value).ownBlock) (.slice (some ⟨go40, 0, none⟩) x5_5.length co52) x5_5) ∧ Aside0 (Kd.N (Kd.slice 3 (Kd.int .i64)) 43 wc w.heap.size (fun k_ => (w.heap.size ≤ k_) ∧ some k_ ≠ ((.slice (some ⟨go40, 0, none⟩) x5_5.length co52) : Value).ownBlock) (.slice (some ⟨go44, 0, none⟩) x7_5.length co57) x7_5) ∧ Aside0 (Below w.heap.size w wc))
                       case first =>
                        have H := HC71.out
                        clear HC71
                        by_cases c72 : x13_5 = x8_3
                        ·rw [if_pos c72] at H
                         have c72b0 : (x13_5 == x8_3) = true := beq_iff_eq.mpr c72
                         have c72b1 : (x13_5 != x8_3) = false := bne_eq_false_iff_eq.mpr c72
                         clear c72
                         (first | rw [c72b0] | (simp only [i64_w, i32_w]; rw [c72b0]) | rw [c72b1] | skip)
                         have H' := Aside0.mk H
                         clear H
                         go_wp2
                         go_meet
                         case rel => exact ⟨_, (false), (by first | rfl | (simp; done) | (simp [*]; done)), H', ⟨by have := HJ1.out; have := HK2.out; have := HK3.out; have := HJ23.out; have := HK5.out; first | omega | exact Nat.le_refl _⟩, ⟨by (try simp only [hl5_5]); (try simp only [hl7_5]); (with_reducible repeat (first | apply Kd.N_alloc | apply Kd.N_drewN | apply Kd.N_drew)); exact HO_5.out⟩, ⟨by (try simp only [hl5_5]); (try simp only [hl7_5]); (with_reducible repeat (first | apply Kd.N_alloc | apply Kd.N_drewN | apply Kd.N_drew)); exact HO_7.out⟩, ⟨by repeat (first | exact HB.out | apply below_alloc | apply pw_below_drewN | apply below_drew1)⟩⟩
                        ·rw [if_neg c72] at H
                         have c72b0 : (x13_5 == x8_3) = false := beq_eq_false_iff_ne.mpr c72
                         have c72b1 : (x13_5 != x8_3) = true := bne_iff_ne.mpr c72
                         (first | rw [c72b0] | (simp only [i64_w, i32_w]; rw [c72b0]) | rw [c72b1] | skip)
                         by_cases c73 : 0 ≤ x13_5
                         ·rw [if_pos c73] at H
                          have c73b0 : decide (0 ≤ x13_5) = true := decide_eq_true c73
                          clear c73
                          by_cases c74 : x13_5 < (x5_5.length : Int)
                          ·rw [if_pos c74] at H
                           have c74b0 : decide (x13_5 < (x5_5.length : Int)) = true := decide_eq_true c74
                           clear c74
                           by_cases c75 : 0 ≤ x8_3
                           ·rw [if_pos c75] at H
                            have c75b0 : decide (0 ≤ x8_3) = true := decide_eq_true c75
                            clear c75
                            by_cases c76 : x8_3 < ((rd_L2 x5_5 x13_5).length : Int)
                            ·rw [if_pos c76] at H
                             have c76b0 : decide (x8_3 < ((rd_L2 x5_5 x13_5).length : Int)) = true := decide_eq_true c76
                             clear c76
                             have H' := Aside0.mk H
                             clear H
                             have p286 : 0 ≤ (x13_5 : Int) := of_decide_eq_true (by assumption)
                             have q286 : x13_5 < (x5_5.length : Int) := of_decide_eq_true (by assumption)
                             obtain ⟨ad286, A286_0, c286_0, e286, hx286_0, hl286_0, hi286_0⟩ := at_L2 (Kd.N_reads' HO_5.out).2.2 x13_5 p286 q286
                             obtain rfl : (⟨go40, 0, none⟩ : Addr) = ad286 := (by injection e286)
                             obtain ⟨ce286, hce286, hMe286, hcc286⟩ := Kd.N_get HO_5.out [] x13_5 p286 (by first | exact q286 | exact of_decide_eq_true (by assumption) | (have e_ := (Kd.N_reads' HO_5.out).1; omega))
                             obtain ⟨ua286_0, uc286_0, rfl, ul286_0, ge286_0⟩ := Kd.FK_slice_open hMe286
                             have hv286_0 := hcc286 0 _ rfl
                             rw [Nat.add_zero, show ((Kd.slice 3 (Kd.int .i64))).sz = 1 from rfl, Nat.mul_one] at hv286_0
                             replace hv286_0 := Option.some.inj (hv286_0.symm.trans hx286_0)
                             injection hv286_0 with hva_ hvn_ hvc_
                             rw [hva_] at ge286_0
                             rw [hvc_] at ul286_0
                             have HL286_0 := Aside0.mk (show Kd.V (Kd.int .i64) 3 _ w.heap.size _ _ (rd_L2 x5_5 x13_5) from Kd.V_mk ul286_0 ge286_0)
                             clear hva_ hvn_ hvc_ ge286_0 ul286_0
                             clear hcc286 hce286
                             (first | simp only [add_plain] at hx286_0 | simp only [add_at] at hx286_0 | simp only [Addr.add, Nat.zero_add] at hx286_0 | skip)
                             have HR286_0 := Aside0.mk hi286_0
                             have HC286_0 := Aside0.mk hl286_0
                             clear hi286_0 hl286_0
                             replace p286 := eq_true p286
                             replace q286 := eq_true q286
                             have p287 : 0 ≤ (x8_3 : Int) := of_decide_eq_true (by assumption)
                             have q287 : x8_3 < ((rd_L2 x5_5 x13_5).length : Int) := of_decide_eq_true (by assumption)
                             obtain ⟨ad287, e287, hx287_0⟩ := Kd.at_int (by repeat (first | (with_reducible exact HR286_0.out) | (with_reducible refine Kd.C_alloc ?_ _) | (with_reducible refine Kd.C_drewN ?_ _) | (with_reducible refine Kd.C_drew ?_) | exact HR286_0.out)) x8_3 p287 q287
                             cases e287
                             replace p287 := eq_true p287
                             replace q287 := eq_true q287
                             go_wp2
                             go_meet
                             case rel => exact ⟨_, (((rd (rd_L2 x5_5 x13_5) x8_3) != 0)), (by first | rfl | (simp; done) | (simp [*]; done)), H', ⟨by have := HJ1.out; have := HK2.out; have := HK3.out; have := HJ23.out; have := HK5.out; first | omega | exact Nat.le_refl _⟩, ⟨by (try simp only [hl5_5]); (try simp only [hl7_5]); (with_reducible repeat (first | apply Kd.N_alloc | apply Kd.N_drewN | apply Kd.N_drew)); exact HO_5.out⟩, ⟨by (try simp only [hl5_5]); (try simp only [hl7_5]); (with_reducible repeat (first | apply Kd.N_alloc | apply Kd.N_drewN | apply Kd.N_drew)); exact HO_7.out⟩, ⟨by repeat (first | exact HB.out | apply below_alloc | apply pw_below_drewN | apply below_drew1)⟩⟩
                            ·rw [if_neg c76] at H
                             exact absurd H (by simp)
                           ·rw [if_neg c75] at H
                            exact absurd H (by simp)
                          ·rw [if_neg c74] at H
                           exact absurd H (by simp)
                         ·rw [if_neg c73] at H
                          exact absurd H (by simp)
                       case rest =>
                        clear HC71
                        try clear c1; try clear c2; try clear p2; try clear q2; try clear hx2; try clear qi2; try clear c3; try clear c4; try clear p4; try clear q4; try clear hx4; try clear hf4; try clear c5; try clear c5b0; try clear c5b1; try clear p5; try clear q5; try clear hx5; try clear hf5; try clear c6; try clear p6; try clear hx6; try clear hf6; try clear c7; try clear c11; try clear c11b0; try clear c12; try clear c12b0; try clear c13; try clear c13b0; try clear c14; try clear c15; try clear c23; try clear c23b0; try clear c24; try clear p24; try clear q24; try clear hx24; try clear qi24; try clear c25; try clear c25b0; try clear p25; try clear q25; try clear hx25; try clear c26; try clear c26b0; try clear p26; try clear q26; try clear hx26; try clear c27; try clear c27b0; try clear p27; try clear q27; try clear hx27; try clear c28; try clear c28b0; try clear p28; try clear q28; try clear hx28; try clear c29; try clear c29b0; try clear c30; try clear c30b0; try clear c30b1; try clear c32; try clear c33; try clear c33b0; try clear c33b1; try clear c34; try clear c36; try clear c36b0; try clear c37; try clear c37b0; try clear c38; try clear c38b0; try clear c39; try clear c39b0; try clear c40; try clear p40; try clear q40; try clear hx40; try clear hf40; try clear c41; try clear p41; try clear q41; try clear hx41; try clear hf41; try clear c42; try clear c42b0; try clear c43; try clear c43b0; try clear c44; try clear p44; try clear q44; try clear hx44; try clear hf44; try clear c45; try clear p45; try clear q45; try clear hx45; try clear hf45; try clear c46; try clear c46b0; try clear c49; try clear p49; try clear q49; try clear hx49; try clear hf49; try clear c51; try clear p51; try clear q51; try clear hx51; try clear hf51; try clear c53; try clear hx53; try clear hf53; try clear c55; try clear hx55; try clear hf55; try clear c58; try clear hx58; try clear hf58; try clear c60; try clear hx60; try clear hf60; try clear c62; try clear c63; try clear hx63; try clear hf63; try clear p64; try clear c67; try clear hx67; try clear hf67; try clear c70; try clear c70b0; try clear c72; try clear c72b0; try clear c72b1; try clear c73; try clear c73b0; try clear c74; try clear c74b0; try clear c75; try clear c75b0; try clear c76; try clear c76b0; try clear hx240_0; try clear hx250_0; try clear hx260_0; try clear hx261_0; try clear hx265_0; try clear hx266_0; try clear hx269_0; try clear hx270_0; try clear hx273_0; try clear hx274_0; try clear hx276_0; try clear hx281_0; try clear hx286_0; try clear hx287_0; try clear hx40_0; try clear hx41_0; try clear hx44_0; try clear hx45_0; try clear hx49_0; try clear hx51_0; try clear hx53_0; try clear hx55_0; try clear hx58_0; try clear hx60_0; try clear hx63_0; try clear hx67_0; try clear p2; try clear p24; try clear p240; try clear p25; try clear p250; try clear p26; try clear p260; try clear p261; try clear p265; try clear p266; try clear p269; try clear p27; try clear p270; try clear p273; try clear p274; try clear p276; try clear p28; try clear p281; try clear p286; try clear p287; try clear p4; try clear p40; try clear p41; try clear p44; try clear p45; try clear p49; try clear p5; try clear p51; try clear p6; try clear p64; try clear q2; try clear q24; try clear q240; try clear q25; try clear q250; try clear q26; try clear q260; try clear q261; try clear q265; try clear q266; try clear q269; try clear q27; try clear q270; try clear q273; try clear q274; try clear q276; try clear q28; try clear q281; try clear q286; try clear q287; try clear q4; try clear q40; try clear q41; try clear q44; try clear q45; try clear q49; try clear q5; try clear q51
                        obtain ⟨kq, x145_70, rfl, HA, HJ70, HO_5, HO_7, HB⟩ := hcut
                        cases kq with
                        | zero => exact absurd HA.out (by simp [spec_InvM.j6])
                        | succ kj70 =>
                         have H := HA.out
                         clear HA
                         simp only [spec_InvM.j6] at H
                         by_cases c77 : x145_70 = true
                         ·subst c77
                          have H1 : (if 0 ≤ x13_5 then (if x13_5 < (x5_5.length : Int) then (if 0 ≤ x8_3 then (if x8_3 < ((rd_L2 x5_5 x13_5).length : Int) then (if x8_3 < (x5_5.length : Int) then ((spec_l06Row.f kj70 (rd_L2 x5_5 x13_5) (rd_L2 x5_5 x8_3) (rd (rd_L2 x5_5 x13_5) x8_3)).bind fun t292 => (if x13_5 < (x7_5.length : Int) then (if x8_3 < (x7_5.length : Int) then ((spec_l06Row.f kj70 (rd_L2 x7_5 x13_5) (rd_L2 x7_5 x8_3) (rd (rd_L2 x5_5 x13_5) x8_3)).bind fun t298 => (spec_InvM.l3 kj70 (l0.length : Int) (x5_5.set (x13_5 : Int).toNat t292) (x7_5.set (x13_5 : Int).toNat t298) x8_3 (wrap64 (x13_5 + 1)))) else (none)) else (none))) else (none)) else (none)) else (none)) else (none)) else (none)) = some (r1, r2) := by rw [if_pos rfl] at H; exact H
                          clear H
                          have H := H1
                          clear H1
                          by_cases c78 : 0 ≤ x13_5
                          ·rw [if_pos c78] at H
                           have c78b0 : decide (0 ≤ x13_5) = true := decide_eq_true c78
                           clear c78
                           by_cases c79 : x13_5 < (x5_5.length : Int)
                           ·rw [if_pos c79] at H
                            have c79b0 : decide (x13_5 < (x5_5.length : Int)) = true := decide_eq_true c79
                            clear c79
                            by_cases c80 : 0 ≤ x8_3
                            ·rw [if_pos c80] at H
                             have c80b0 : decide (0 ≤ x8_3) = true := decide_eq_true c80
                             clear c80
                             by_cases c81 : x8_3 < ((rd_L2 x5_5 x13_5).length : Int)
                             ·rw [if_pos c81] at H
                              have c81b0 : decide (x8_3 < ((rd_L2 x5_5 x13_5).length : Int)) = true := decide_eq_true c81
                              clear c81
                              by_cases c82 : x8_3 < (x5_5.length : Int)
                              ·rw [if_pos c82] at H
                               have c82b0 : decide (x8_3 < (x5_5.length : Int)) = true := decide_eq_true c82
                               clear c82
                               replace H := Option.bind_eq_some_iff.mp H
                               obtain ⟨t292, A830, H⟩ := H
                               replace H : (if x13_5 < (x7_5.length : Int) then (if x8_3 < (x7_5.length : Int) then ((spec_l06Row.f kj70 (rd_L2 x7_5 x13_5) (rd_L2 x7_5 x8_3) (rd (rd_L2 x5_5 x13_5) x8_3)).bind fun t298 => (spec_InvM.l3 kj70 (l0.length : Int) (x5_5.set (x13_5 : Int).toNat t292) (x7_5.set (x13_5 : Int).toNat t298) x8_3 (wrap64 (x13_5 + 1)))) else (none)) else (none)) = some (r1, r2) := H
                               have A83 := Aside0.mk A830
                               clear A830
                               obtain ⟨y295, hy295⟩ : ∃ y_ : List (List Int), y_ = (x5_5.set (x13_5 : Int).toNat t292) := ⟨_, rfl⟩
                               replace H : (if x13_5 < (x7_5.length : Int) then (if x8_3 < (x7_5.length : Int) then ((spec_l06Row.f kj70 (rd_L2 x7_5 x13_5) (rd_L2 x7_5 x8_3) (rd (rd_L2 x5_5 x13_5) x8_3)).bind fun t298 => (spec_InvM.l3 kj70 (l0.length : Int) y295 (x7_5.set (x13_5 : Int).toNat t298) x8_3 (wrap64 (x13_5 + 1)))) else (none)) else (none)) = some (r1, r2) := by first | (rw [hy295]; with_reducible exact H) | (have H2_ := (Option.bind_some _ _).symm.trans H; rw [hy295]; with_reducible exact H2_) | (have H2_ := (Option.bind_some _ _).symm.trans H; with_reducible exact H2_) | with_reducible exact H | (rw [hy295]; exact H) | exact H
                               have Ny295 := Aside0.mk hy295
                               clear hy295
                               by_cases c85 : x13_5 < (x7_5.length : Int)
                               ·rw [if_pos c85] at H
                                have c85b0 : decide (x13_5 < (x7_5.length : Int)) = true := decide_eq_true c85
                                clear c85
                                by_cases c86 : x8_3 < (x7_5.length : Int)
                                ·rw [if_pos c86] at H
                                 have c86b0 : decide (x8_3 < (x7_5.length : Int)) = true := decide_eq_true c86
                                 clear c86
                                 replace H := Option.bind_eq_some_iff.mp H
                                 obtain ⟨t298, A870, H⟩ := H
                                 replace H : (spec_InvM.l3 kj70 (l0.length : Int) y295 (x7_5.set (x13_5 : Int).toNat t298) x8_3 (wrap64 (x13_5 + 1))) = some (r1, r2) := H
                                 have A87 := Aside0.mk A870
                                 clear A870
                                 obtain ⟨y301, hy301⟩ : ∃ y_ : List (List Int), y_ = (x7_5.set (x13_5 : Int).toNat t298) := ⟨_, rfl⟩
                                 replace H : (spec_InvM.l3 kj70 (l0.length : Int) y295 y301 x8_3 (wrap64 (x13_5 + 1))) = some (r1, r2) := by first | (rw [hy301]; with_reducible exact H) | (have H2_ := (Option.bind_some _ _).symm.trans H; rw [hy301]; with_reducible exact H2_) | (have H2_ := (Option.bind_some _ _).symm.trans H; with_reducible exact H2_) | with_reducible exact H | (rw [hy301]; exact H) | exact H
                                 have Ny301 := Aside0.mk hy301
                                 clear hy301
                                 have H' := Aside0.mk H
                                 clear H
                                 have p288 : 0 ≤ (x13_5 : Int) := of_decide_eq_true (by assumption)
                                 have q288 : x13_5 < (x5_5.length : Int) := of_decide_eq_true (by assumption)
                                 obtain ⟨ad288, A288_0, c288_0, e288, hx288_0, hl288_0, hi288_0⟩ := at_L2 (Kd.N_reads' HO_5.out).2.2 x13_5 p288 q288
                                 obtain rfl : (⟨go40, 0, none⟩ : Addr) = ad288 := (by injection e288)
                                 obtain ⟨ce288, hce288, hMe288, hcc288⟩ := Kd.N_get HO_5.out [] x13_5 p288 (by first | exact q288 | exact of_decide_eq_true (by assumption) | (have e_ := (Kd.N_reads' HO_5.out).1; omega))
                                 obtain ⟨ua288_0, uc288_0, rfl, ul288_0, ge288_0⟩ := Kd.FK_slice_open hMe288
                                 have hv288_0 := hcc288 0 _ rfl
                                 rw [Nat.add_zero, show ((Kd.slice 3 (Kd.int .i64))).sz = 1 from rfl, Nat.mul_one] at hv288_0
                                 replace hv288_0 := Option.some.inj (hv288_0.symm.trans hx288_0)
                                 injection hv288_0 with hva_ hvn_ hvc_
                                 rw [hva_] at ge288_0
                                 rw [hvc_] at ul288_0
                                 have HL288_0 := Aside0.mk (show Kd.V (Kd.int .i64) 3 _ w.heap.size _ _ (rd_L2 x5_5 x13_5) from Kd.V_mk ul288_0 ge288_0)
                                 clear hva_ hvn_ hvc_ ge288_0 ul288_0
                                 clear hcc288 hce288
                                 (first | simp only [add_plain] at hx288_0 | simp only [add_at] at hx288_0 | simp only [Addr.add, Nat.zero_add] at hx288_0 | skip)
                                 have HR288_0 := Aside0.mk hi288_0
                                 have HC288_0 := Aside0.mk hl288_0
                                 clear hi288_0 hl288_0
                                 replace p288 := eq_true p288
                                 replace q288 := eq_true q288
                                 have p289 : 0 ≤ (x8_3 : Int) := of_decide_eq_true (by assumption)
                                 have q289 : x8_3 < ((rd_L2 x5_5 x13_5).length : Int) := of_decide_eq_true (by assumption)
                                 obtain ⟨ad289, e289, hx289_0⟩ := Kd.at_int (by repeat (first | (with_reducible exact HR288_0.out) | (with_reducible refine Kd.C_alloc ?_ _) | (with_reducible refine Kd.C_drewN ?_ _) | (with_reducible refine Kd.C_drew ?_) | exact HR288_0.out)) x8_3 p289 q289
                                 cases e289
                                 replace p289 := eq_true p289
                                 replace q289 := eq_true q289
                                 try go_wp2
                                 have n0_ := Aside0.mk (Kd.N_drew HO_5.out)
                                 have n1_ := Aside0.mk (Kd.N_drew HO_7.out)
                                 have n2_ := Aside0.mk (Kd.V_drew HL288_0.out)
                                 have n3_ := Aside0.mk (Kd.C_drew HR288_0.out)
                                 have n4_ := Aside0.mk (below_drew1 HB.out)
                                 clear HO_5
                                 clear HO_7
                                 clear HL288_0
                                 clear HR288_0
                                 clear HB
                                 have HO_5 := n0_
                                 have HO_7 := n1_
                                 have HL288_0 := n2_
                                 have HR288_0 := n3_
                                 have HB := n4_
                                 clear n0_ n1_ n2_ n3_ n4_
                                 have p290 : 0 ≤ (x13_5 : Int) := of_decide_eq_true (by assumption)
                                 have q290 : x13_5 < (x5_5.length : Int) := of_decide_eq_true (by assumption)
                                 obtain ⟨ad290, A290_0, c290_0, e290, hx290_0, hl290_0, hi290_0⟩ := at_L2 (Kd.N_reads' HO_5.out).2.2 x13_5 p290 q290
                                 obtain rfl : (⟨go40, 0, none⟩ : Addr) = ad290 := (by injection e290)
                                 obtain ⟨ce290, hce290, hMe290, hcc290⟩ := Kd.N_get HO_5.out [] x13_5 p290 (by first | exact q290 | exact of_decide_eq_true (by assumption) | (have e_ := (Kd.N_reads' HO_5.out).1; omega))
                                 obtain ⟨ua290_0, uc290_0, rfl, ul290_0, ge290_0⟩ := Kd.FK_slice_open hMe290
                                 have hv290_0 := hcc290 0 _ rfl
                                 rw [Nat.add_zero, show ((Kd.slice 3 (Kd.int .i64))).sz = 1 from rfl, Nat.mul_one] at hv290_0
                                 replace hv290_0 := Option.some.inj (hv290_0.symm.trans hx290_0)
                                 injection hv290_0 with hva_ hvn_ hvc_
                                 rw [hva_] at ge290_0
                                 rw [hvc_] at ul290_0
                                 have HL290_0 := Aside0.mk (show Kd.V (Kd.int .i64) 3 _ w.heap.size _ _ (rd_L2 x5_5 x13_5) from Kd.V_mk ul290_0 ge290_0)
                                 clear hva_ hvn_ hvc_ ge290_0 ul290_0
                                 clear hcc290 hce290
                                 (first | simp only [add_plain] at hx290_0 | simp only [add_at] at hx290_0 | simp only [Addr.add, Nat.zero_add] at hx290_0 | skip)
                                 have HR290_0 := Aside0.mk hi290_0
                                 have HC290_0 := Aside0.mk hl290_0
                                 clear hi290_0 hl290_0
                                 replace p290 := eq_true p290
                                 replace q290 := eq_true q290
                                 have p291 : 0 ≤ (x8_3 : Int) := of_decide_eq_true (by assumption)
                                 have q291 : x8_3 < (x5_5.length : Int) := of_decide_eq_true (by assumption)
                                 obtain ⟨ad291, A291_0, c291_0, e291, hx291_0, hl291_0, hi291_0⟩ := at_L2 (Kd.N_reads' HO_5.out).2.2 x8_3 p291 q291
                                 obtain rfl : (⟨go40, 0, none⟩ : Addr) = ad291 := (by injection e291)
                                 obtain ⟨ce291, hce291, hMe291, hcc291⟩ := Kd.N_get HO_5.out [] x8_3 p291 (by first | exact q291 | exact of_decide_eq_true (by assumption) | (have e_ := (Kd.N_reads' HO_5.out).1; omega))
                                 obtain ⟨ua291_0, uc291_0, rfl, ul291_0, ge291_0⟩ := Kd.FK_slice_open hMe291
                                 have hv291_0 := hcc291 0 _ rfl
                                 rw [Nat.add_zero, show ((Kd.slice 3 (Kd.int .i64))).sz = 1 from rfl, Nat.mul_one] at hv291_0
                                 replace hv291_0 := Option.some.inj (hv291_0.symm.trans hx291_0)
                                 injection hv291_0 with hva_ hvn_ hvc_
                                 rw [hva_] at ge291_0
                                 rw [hvc_] at ul291_0
                                 have HL291_0 := Aside0.mk (show Kd.V (Kd.int .i64) 3 _ w.heap.size _ _ (rd_L2 x5_5 x8_3) from Kd.V_mk ul291_0 ge291_0)
                                 clear hva_ hvn_ hvc_ ge291_0 ul291_0
                                 clear hcc291 hce291
                                 (first | simp only [add_plain] at hx291_0 | simp only [add_at] at hx291_0 | simp only [Addr.add, Nat.zero_add] at hx291_0 | skip)
                                 have HR291_0 := Aside0.mk hi291_0
                                 have HC291_0 := Aside0.mk hl291_0
                                 clear hi291_0 hl291_0
                                 replace p291 := eq_true p291
                                 replace q291 := eq_true q291
                                 refine start_ (n := 14) (S := fun w' => w'.cell? ⟨go40, (x13_5).toNat, none⟩ = some (.slice A290_0 (rd_L2 x5_5 x13_5).length c290_0) ∧ w'.cell? ⟨go40, (x8_3).toNat, none⟩ = some (.slice A291_0 (rd_L2 x5_5 x8_3).length c291_0)) (ds := [13]) #[false, false, false, false, false, false, false, false, false, false, false, false, false, false] (by kernel_rfl) rfl rfl ⟨hx290_0, hx291_0⟩ (fun hHeld => ?_); refine with_tabW spec_InvM.tab32 spec_InvM.bits32 (fun HT_ HW_ => ?_)
                                 generalize wc.drew = w89 at HO_5 HO_7 HL288_0 HR288_0 HB HL290_0 HL291_0 HR290_0 HR291_0 hx290_0 hx291_0 hHeld ⊢
                                 refine pure_ (i := 0) (N := some 153) (v := ?_) (a' := ?_) #[true, false, false, false, false, false, false, false, false, false, false, false, false, false] rfl rfl (any_of HT_.out (by kernel_rfl)) (fun _ _ _ h => h) (Or.inl ⟨by rfl, ?_⟩) ?_ ?_
                                 rotate_left
                                 ·intro w'
                                  go_simp
                                  with_reducible rfl
                                 rotate_left
                                 ·simp only [Act.put, List.setIfInBounds_toArray, List.set_cons_zero, List.set_cons_succ, i64_w, i32_w]
                                  rfl
                                 refine pure_ (i := 1) (N := some 154) (v := ?_) (a' := ?_) #[true, true, false, false, false, false, false, false, false, false, false, false, false, false] rfl rfl (any_of HT_.out (by kernel_rfl)) (fun _ _ _ h => h) (Or.inl ⟨by rfl, ?_⟩) ?_ ?_
                                 rotate_left
                                 ·intro w'
                                  go_simp
                                  with_reducible rfl
                                 rotate_left
                                 ·simp only [Act.put, List.setIfInBounds_toArray, List.set_cons_zero, List.set_cons_succ, i64_w, i32_w]
                                  rfl
                                 refine pure_ (i := 2) (N := some 155) (v := ?_) (a' := ?_) #[true, true, true, false, false, false, false, false, false, false, false, false, false, false] rfl rfl (any_of HT_.out (by kernel_rfl)) (fun _ _ _ h => h) (Or.inl ⟨by rfl, ?_⟩) ?_ ?_
                                 rotate_left
                                 ·intro w'
                                  go_simp
                                  with_reducible rfl
                                 rotate_left
                                 ·simp only [Act.put, List.setIfInBounds_toArray, List.set_cons_zero, List.set_cons_succ, i64_w, i32_w]
                                  rfl
                                 refine pure_ (i := 3) (N := some 156) (v := ?_) (a' := ?_) #[true, true, true, true, false, false, false, false, false, false, false, false, false, false] rfl rfl (any_of HT_.out (by kernel_rfl)) (fun _ _ _ h => h) (Or.inl ⟨by rfl, ?_⟩) ?_ ?_
                                 rotate_left
                                 ·intro w'
                                  go_simp
                                  with_reducible rfl
                                 rotate_left
                                 ·simp only [Act.put, List.setIfInBounds_toArray, List.set_cons_zero, List.set_cons_succ, i64_w, i32_w]
                                  rfl
                                 refine pure_ (i := 4) (N := some 157) (v := ?_) (a' := ?_) #[true, true, true, true, true, false, false, false, false, false, false, false, false, false] rfl rfl (any_of HT_.out (by kernel_rfl)) (fun _ _ _ h => h) (Or.inl ⟨by rfl, ?_⟩) ?_ ?_
                                 rotate_left
                                 ·intro w'
                                  go_simp
                                  with_reducible rfl
                                 rotate_left
                                 ·simp only [Act.put, List.setIfInBounds_toArray, List.set_cons_zero, List.set_cons_succ, i64_w, i32_w]
                                  rfl
                                 refine pure_ (i := 6) (N := some 159) (v := ?_) (a' := ?_) #[true, true, true, true, true, false, true, false, false, false, false, false, false, false] rfl rfl (any_of HT_.out (by kernel_rfl)) (fun _ _ _ h => h) (Or.inl ⟨by rfl, ?_⟩) ?_ ?_
                                 rotate_left
                                 ·intro w'
                                  go_simp
                                  with_reducible rfl
                                 rotate_left
                                 ·simp only [Act.put, List.setIfInBounds_toArray, List.set_cons_zero, List.set_cons_succ, i64_w, i32_w]
                                  rfl
                                 refine pure_ (i := 7) (N := some 160) (v := ?_) (a' := ?_) #[true, true, true, true, true, false, true, true, false, false, false, false, false, false] rfl rfl (any_of HT_.out (by kernel_rfl)) (fun _ _ _ h => h) (Or.inl ⟨by rfl, ?_⟩) ?_ ?_
                                 rotate_left
                                 ·intro w'
                                  go_simp
                                  with_reducible rfl
                                 rotate_left
                                 ·simp only [Act.put, List.setIfInBounds_toArray, List.set_cons_zero, List.set_cons_succ, i64_w, i32_w]
                                  rfl
                                 refine pure_ (i := 8) (N := some 161) (v := ?_) (a' := ?_) #[true, true, true, true, true, false, true, true, true, false, false, false, false, false] rfl rfl (any_of HT_.out (by kernel_rfl)) (fun _ _ _ h => h) (Or.inl ⟨by rfl, ?_⟩) ?_ ?_
                                 rotate_left
                                 ·intro w'
                                  go_simp
                                  with_reducible rfl
                                 rotate_left
                                 ·simp only [Act.put, List.setIfInBounds_toArray, List.set_cons_zero, List.set_cons_succ, i64_w, i32_w]
                                  rfl
                                 refine pure_ (i := 10) (N := some 163) (v := ?_) (a' := ?_) #[true, true, true, true, true, false, true, true, true, false, true, false, false, false] rfl rfl (any_of HT_.out (by kernel_rfl)) (fun _ _ _ h => h) (Or.inl ⟨by rfl, ?_⟩) ?_ ?_
                                 rotate_left
                                 ·intro w'
                                  go_simp
                                  with_reducible rfl
                                 rotate_left
                                 ·simp only [Act.put, List.setIfInBounds_toArray, List.set_cons_zero, List.set_cons_succ, i64_w, i32_w]
                                  rfl
                                 refine take_ (i := 5) (N := some 158) (v := ?_) (a' := ?_) #[true, true, true, true, true, true, true, true, true, false, true, false, false, false] rfl rfl (take_ofW HT_.out HW_.out (by kernel_rfl)) (fun _ _ _ h => h) (Or.inl ⟨by rfl, ?_⟩) hHeld ?_ ?_
                                 rotate_left
                                 ·rintro w' ⟨s0, s1⟩
                                  go_simp
                                  with_reducible rfl
                                 rotate_left
                                 ·simp only [Act.put, List.setIfInBounds_toArray, List.set_cons_zero, List.set_cons_succ, i64_w, i32_w]
                                  rfl
                                 refine take_ (i := 9) (N := some 162) (v := ?_) (a' := ?_) #[true, true, true, true, true, true, true, true, true, true, true, false, false, false] rfl rfl (take_ofW HT_.out HW_.out (by kernel_rfl)) (fun _ _ _ h => h) (Or.inl ⟨by rfl, ?_⟩) hHeld ?_ ?_
                                 rotate_left
                                 ·rintro w' ⟨s0, s1⟩
                                  go_simp
                                  with_reducible rfl
                                 rotate_left
                                 ·simp only [Act.put, List.setIfInBounds_toArray, List.set_cons_zero, List.set_cons_succ, i64_w, i32_w]
                                  rfl
                                 refine one_ (i := 11) (N := some 164) #[true, true, true, true, true, true, true, true, true, true, true, true, false, false] rfl rfl (one_of HT_.out (by kernel_rfl)) (by decide) (fun K hK => ?_)
                                 refine goes_ Try.func64 (by kernel_rfl) rfl #[.slice A290_0 (rd_L2 x5_5 x13_5).length c290_0, .slice A291_0 (rd_L2 x5_5 x8_3).length c291_0, .int .i64 (rd (rd_L2 x5_5 x13_5) x8_3)] (by rfl) rfl rfl (by (try simp only [List.map_toArray, List.map_cons, List.map_nil]); first | done | rfl) ?_
                                 with_reducible refine (spec_l06Row.calls kj70 _ _ (rd_L2 x5_5 x13_5) _ _ (rd_L2 x5_5 x8_3) (rd (rd_L2 x5_5 x13_5) x8_3) t292 _ ?side1 ?side2 ?side3 ?side4 A83.out).mono ?_
                                 (case side1 => repeat (first | exact (by repeat (first | (with_reducible exact HR290_0.out) | (with_reducible refine Kd.C_alloc ?_ _) | (with_reducible refine Kd.C_drewN ?_ _) | (with_reducible refine Kd.C_drew ?_) | exact HR290_0.out)) | (with_reducible refine Kd.C_alloc ?_ _) | (with_reducible refine Kd.C_drewN ?_ _) | (with_reducible refine Kd.C_drew ?_)))
                                 (case side2 => exact HC290_0.out)
                                 (case side3 => repeat (first | exact (by repeat (first | (with_reducible exact HR291_0.out) | (with_reducible refine Kd.C_alloc ?_ _) | (with_reducible refine Kd.C_drewN ?_ _) | (with_reducible refine Kd.C_drew ?_) | exact HR291_0.out)) | (with_reducible refine Kd.C_alloc ?_ _) | (with_reducible refine Kd.C_drewN ?_ _) | (with_reducible refine Kd.C_drew ?_)))
                                 (case side4 => exact HC291_0.out)
                                 rintro e w90 ⟨v293, rfl, ho0, hb⟩
                                 have HS0_ := (hb.cell (World.block_lt_of_cell? _ _ (hHeld.1))).trans (hHeld.1)
                                 have HS1_ := (hb.cell (World.block_lt_of_cell? _ _ (hHeld.2))).trans (hHeld.2)
                                 refine ⟨_, rfl, ?_⟩
                                 have n0_ := Aside0.mk (Kd.N_elder' (by (with_reducible repeat (first | apply Kd.N_alloc | apply Kd.N_drewN | apply Kd.N_drew)); exact HO_5.out) (Kd.R_base ho0) hb)
                                 have n1_ := Aside0.mk (Kd.N_elder' (by (with_reducible repeat (first | apply Kd.N_alloc | apply Kd.N_drewN | apply Kd.N_drew)); exact HO_7.out) (Kd.R_base ho0) hb)
                                 have n2_ := Aside0.mk (Kd.V_elder' (by (with_reducible repeat (first | apply Kd.V_alloc | apply Kd.V_drewN | apply Kd.V_drew)); exact HL288_0.out) (Kd.R_base ho0) hb)
                                 have n3_ := Aside0.mk (Kd.V_elder' (by (with_reducible repeat (first | apply Kd.V_alloc | apply Kd.V_drewN | apply Kd.V_drew)); exact HL290_0.out) (Kd.R_base ho0) hb)
                                 have n4_ := Aside0.mk (Kd.V_elder' (by (with_reducible repeat (first | apply Kd.V_alloc | apply Kd.V_drewN | apply Kd.V_drew)); exact HL291_0.out) (Kd.R_base ho0) hb)
                                 have n5_ := Aside0.mk (Kd.R_lower (Kd.R_newM (M := fun k_ => (w.heap.size ≤ k_)) ho0 (below_size (by repeat (first | exact HB.out | apply below_alloc | apply pw_below_drewN | apply below_drew1))) (fun k_ h_ => h_)) (below_size (by repeat (first | exact HB.out | apply below_alloc | apply pw_below_drewN | apply below_drew1))))
                                 have n6_ := Aside0.mk (Kd.C_below (by repeat (first | (with_reducible exact HR288_0.out) | (with_reducible refine Kd.C_alloc ?_ _) | (with_reducible refine Kd.C_drewN ?_ _) | (with_reducible refine Kd.C_drew ?_) | exact HR288_0.out)) hb)
                                 have n7_ := Aside0.mk (Kd.C_below (by repeat (first | (with_reducible exact HR290_0.out) | (with_reducible refine Kd.C_alloc ?_ _) | (with_reducible refine Kd.C_drewN ?_ _) | (with_reducible refine Kd.C_drew ?_) | exact HR290_0.out)) hb)
                                 have n8_ := Aside0.mk (Kd.C_below (by repeat (first | (with_reducible exact HR291_0.out) | (with_reducible refine Kd.C_alloc ?_ _) | (with_reducible refine Kd.C_drewN ?_ _) | (with_reducible refine Kd.C_drew ?_) | exact HR291_0.out)) hb)
                                 have n9_ := Aside0.mk (below_step (by repeat (first | exact HB.out | apply below_alloc | apply pw_below_drewN | apply below_drew1)) hb)
                                 clear HO_5
                                 clear HO_7
                                 clear HL288_0
                                 clear HL290_0
                                 clear HL291_0
                                 clear HR288_0
                                 clear HR290_0
                                 clear HR291_0
                                 clear HB
                                 have HO_5 := n0_
                                 have HO_7 := n1_
                                 have HL288_0 := n2_
                                 have HL290_0 := n3_
                                 have HL291_0 := n4_
                                 have HO294 := n5_
                                 have HR288_0 := n6_
                                 have HR290_0 := n7_
                                 have HR291_0 := n8_
                                 have HB := n9_
                                 clear n0_ n1_ n2_ n3_ n4_ n5_ n6_ n7_ n8_ n9_
                                 (try clear hb)
                                 (try clear hb2)
                                 (try clear hk)
                                 (try clear hi)
                                 (try clear ho0)
                                 have p84 : 0 ≤ (x13_5 : Int) := of_decide_eq_true (by assumption)
                                 have q84 : (x13_5 : Int) < ((x5_5.length : Int) : Int) := of_decide_eq_true (by assumption)
                                 obtain ⟨ce84, hcl84, hM84, hcc84, hfr84⟩ := Kd.N_elem HO_5.out [] (x13_5 : Int) p84 q84
                                 obtain ⟨ua84_0, uc84_0, rfl, ul84_0, ge84_0⟩ := Kd.FK_slice_open hM84
                                 have hx84_0 := hcc84 0 _ rfl
                                 have hf84_0 := hfr84 0
                                 (try simp only [show ((Kd.slice 3 (Kd.int .i64))).sz = 1 from rfl, Nat.mul_one, Nat.add_zero] at hx84_0)
                                 (try simp only [show ((Kd.slice 3 (Kd.int .i64))).sz = 1 from rfl, Nat.mul_one, Nat.add_zero] at hf84_0)
                                 (try clear hM84); clear hcl84 hcc84 hfr84
                                 replace p84 := eq_true p84
                                 replace q84 := eq_true q84
                                 obtain ⟨Ao92, co92, eo92⟩ := Kd.R_slice HO294.out
                                 (first | subst eo92 | (injection eo92 with f1_ f2_ f3_; have f4_ := f1_.symm; have f5_ := f3_.symm; clear f1_ f2_ f3_; subst f4_; subst f5_))
                                 have HX91 := Aside0.mk (show Kd.N (Kd.slice 3 (Kd.int .i64)) 43 _ w.heap.size (fun k_ => (w.heap.size ≤ k_) ∧ some k_ ≠ (.slice (some ⟨go44, 0, none⟩) x7_5.length co57 : Value).ownBlock ∧ some k_ ≠ (.slice Ao92 t292.length co92 : Value).ownBlock) (.slice (some ⟨go40, 0, none⟩) x5_5.length co52) x5_5 from (Kd.N_mono (HO_5.out) (fun k_ hk => ⟨hk.1.1, ⟨hk.1.2, hk.2⟩⟩)))
                                 replace HX91 := Aside0.mk (show Kd.N (Kd.slice 3 (Kd.int .i64)) 43 _ w.heap.size (fun k_ => (w.heap.size ≤ k_) ∧ some k_ ≠ (.slice (some ⟨go44, 0, none⟩) x7_5.length co57 : Value).ownBlock) (.slice (some ⟨go40, 0, none⟩) x5_5.length co52) x5_5 from Kd.N_mono HX91.out (fun k_ hk => ⟨hk.1, hk.2.1⟩))
                                 obtain ⟨ce91, hcl91, hM91, hcc91, hfr91⟩ := Kd.N_elem HX91.out [] (x13_5 : Int) (of_decide_eq_true (by assumption)) (by have h_ : (x13_5 : Int) < ((x5_5.length : Int) : Int) := of_decide_eq_true (by assumption); first | exact h_ | (have e_ := (Kd.N_reads' HO_5.out).1; omega) | simpa using h_)
                                 obtain ⟨ua91_0, uc91_0, rfl, ul91_0, ge91_0⟩ := Kd.FK_slice_open hM91
                                 have HP91 := (Kd.N_seg HX91.out (x13_5 : Int) (of_decide_eq_true (by assumption)) (by have h_ : (x13_5 : Int) < ((x5_5.length : Int) : Int) := of_decide_eq_true (by assumption); first | exact h_ | (have e_ := (Kd.N_reads' HO_5.out).1; omega) | simpa using h_) (seg := [.slice Ao92 t292.length co92]) (j := 0) hcl91 hcc91 (show 1 ≤ 1 from by decide) (x' := t292) (Kd.FK_slice_mk (Kd.R_reads' (Kd.R_mono (ok' := (fun k_ => ((fun k_ => (w.heap.size ≤ k_) ∧ some k_ ≠ (.slice (some ⟨go44, 0, none⟩) x7_5.length co57 : Value).ownBlock)) k_ ∧ k_ ≠ go40)) (Kd.R_apart' (Kd.R_apart' (HO294.out) (Kd.N_typed HO_7.out) (by decide)) (Kd.N_typed HO_5.out) (by decide)) (fun k_ hk => ⟨⟨hk.1.1.1, hk.1.2⟩, fun e_ => (hk.2) (by rw [e_]; rfl)⟩))).2.1 (Kd.R_F (Kd.R_mono (ok' := (fun k_ => ((fun k_ => (w.heap.size ≤ k_) ∧ some k_ ≠ (.slice (some ⟨go44, 0, none⟩) x7_5.length co57 : Value).ownBlock)) k_ ∧ k_ ≠ go40)) (Kd.R_apart' (Kd.R_apart' (HO294.out) (Kd.N_typed HO_7.out) (by decide)) (Kd.N_typed HO_5.out) (by decide)) (fun k_ hk => ⟨⟨hk.1.1.1, hk.1.2⟩, fun e_ => (hk.2) (by rw [e_]; rfl)⟩)))) (fun _ hk => hk)).1
                                 (try simp only [show ((Kd.slice 3 (Kd.int .i64))).sz = 1 from rfl, Nat.mul_one, Nat.add_zero] at HP91)
                                 rw [← Ny295.out] at HP91
                                 have HQ91 := Aside0.mk HP91
                                 (try clear hM91); clear hcl91 hcc91 hfr91 HP91
                                 refine hK.out _ _ ⟨HS0_, HS1_⟩ (fun hHeld => ?_)
                                 clear hK K
                                 refine norm_ (a' := ?_) ?_ ?_
                                 rotate_left
                                 ·show Act.put _ (some 164) _ = _
                                  simp only [Act.put, List.setIfInBounds_toArray, List.set_cons_zero, List.set_cons_succ, i64_w, i32_w]
                                  rfl
                                 refine pure_ (i := 12) (N := some 165) (v := ?_) (a' := ?_) #[true, true, true, true, true, true, true, true, true, true, true, true, true, false] rfl rfl (any_of HT_.out (by kernel_rfl)) (fun _ _ _ h => h) (Or.inl ⟨by rfl, ?_⟩) ?_ ?_
                                 rotate_left
                                 ·intro w'
                                  go_simp
                                  with_reducible rfl
                                 rotate_left
                                 ·simp only [Act.put, List.setIfInBounds_toArray, List.set_cons_zero, List.set_cons_succ, i64_w, i32_w]
                                  rfl
                                 refine last_ (i := 13) (N := none) #[true, true, true, true, true, true, true, true, true, true, true, true, true, true] rfl rfl (one_of HT_.out (by kernel_rfl)) (by decide) (fun K hK => ?_)
                                 refine skip_ (w1 := ?_) (by rfl) rfl ?_ ?_
                                 rotate_left
                                 ·go_simp
                                  rfl
                                 refine hK.out _ _ ?_
                                 clear hK K
                                 refine done_ (done_of HT_.out (by kernel_rfl)) ?_
                                 try go_wp2
                                 have n0_ : Aside0 (Kd.N (Kd.slice 3 (Kd.int .i64)) 43 (w90.setCell ⟨go40, (x13_5 : Int).toNat, none⟩ (.slice Ao92 t292.length co92)) w.heap.size (fun k_ => (w.heap.size ≤ k_) ∧ some k_ ≠ (.slice (some ⟨go44, 0, none⟩) x7_5.length co57 : Value).ownBlock) (.slice (some ⟨go40, 0, none⟩) x5_5.length co52) y295) := ⟨by (with_reducible repeat (first | apply Kd.N_alloc | apply Kd.N_drewN | apply Kd.N_drew)); exact HQ91.out⟩
                                 have n1_ : Aside0 (Kd.N (Kd.slice 3 (Kd.int .i64)) 43 (w90.setCell ⟨go40, (x13_5 : Int).toNat, none⟩ (.slice Ao92 t292.length co92)) w.heap.size (fun k_ => (w.heap.size ≤ k_) ∧ some k_ ≠ (.slice (some ⟨go40, 0, none⟩) x5_5.length co52 : Value).ownBlock) (.slice (some ⟨go44, 0, none⟩) x7_5.length co57) x7_5) := ⟨by (with_reducible repeat (first | apply Kd.N_alloc | apply Kd.N_drewN | apply Kd.N_drew)); exact Kd.N_mono (Kd.N_far (p := ⟨go40, (x13_5 : Int).toNat, none⟩) (Kd.N_mono HO_7.out (fun k_ hk => (⟨hk, fun e_ => hk.1.2 (by rw [e_]; rfl)⟩ : _ ∧ k_ ≠ go40))) (fun _ hk => hk.2) (.slice Ao92 t292.length co92)) (fun _ hk => ⟨hk.1.1.1, hk.1.1.2⟩)⟩
                                 have n2_ : Aside0 (Kd.V (Kd.int .i64) 3 (w90.setCell ⟨go40, (x13_5 : Int).toNat, none⟩ (.slice Ao92 t292.length co92)) w.heap.size (fun k_ => (w.heap.size ≤ k_) ∧ some k_ ≠ (.slice (some ⟨go40, 0, none⟩) x5_5.length co52 : Value).ownBlock ∧ some k_ ≠ (.slice (some ⟨go44, 0, none⟩) x7_5.length co57 : Value).ownBlock) (.slice (some ad289) (rd_L2 x5_5 x13_5).length c288_0) (rd_L2 x5_5 x13_5)) := ⟨by (with_reducible repeat (first | apply Kd.V_alloc | apply Kd.V_drewN | apply Kd.V_drew)); exact Kd.V_mono (Kd.V_far (p := ⟨go40, (x13_5 : Int).toNat, none⟩) (Kd.V_mono HL288_0.out (fun k_ hk => (⟨hk, fun e_ => hk.1.2 (by rw [e_]; rfl)⟩ : _ ∧ k_ ≠ go40))) (fun _ hk => hk.2) (.slice Ao92 t292.length co92)) (fun _ hk => ⟨hk.1.1.1.1, ⟨hk.1.1.2, hk.1.1.1.2⟩⟩)⟩
                                 have n3_ : Aside0 (Kd.V (Kd.int .i64) 3 (w90.setCell ⟨go40, (x13_5 : Int).toNat, none⟩ (.slice Ao92 t292.length co92)) w.heap.size (fun k_ => (w.heap.size ≤ k_) ∧ some k_ ≠ (.slice (some ⟨go40, 0, none⟩) x5_5.length co52 : Value).ownBlock ∧ some k_ ≠ (.slice (some ⟨go44, 0, none⟩) x7_5.length co57 : Value).ownBlock) (.slice A290_0 (rd_L2 x5_5 x13_5).length c290_0) (rd_L2 x5_5 x13_5)) := ⟨by (with_reducible repeat (first | apply Kd.V_alloc | apply Kd.V_drewN | apply Kd.V_drew)); exact Kd.V_mono (Kd.V_far (p := ⟨go40, (x13_5 : Int).toNat, none⟩) (Kd.V_mono HL290_0.out (fun k_ hk => (⟨hk, fun e_ => hk.1.2 (by rw [e_]; rfl)⟩ : _ ∧ k_ ≠ go40))) (fun _ hk => hk.2) (.slice Ao92 t292.length co92)) (fun _ hk => ⟨hk.1.1.1.1, ⟨hk.1.1.2, hk.1.1.1.2⟩⟩)⟩
                                 have n4_ : Aside0 (Kd.V (Kd.int .i64) 3 (w90.setCell ⟨go40, (x13_5 : Int).toNat, none⟩ (.slice Ao92 t292.length co92)) w.heap.size (fun k_ => (w.heap.size ≤ k_) ∧ some k_ ≠ (.slice (some ⟨go40, 0, none⟩) x5_5.length co52 : Value).ownBlock ∧ some k_ ≠ (.slice (some ⟨go44, 0, none⟩) x7_5.length co57 : Value).ownBlock) (.slice A291_0 (rd_L2 x5_5 x8_3).length c291_0) (rd_L2 x5_5 x8_3)) := ⟨by (with_reducible repeat (first | apply Kd.V_alloc | apply Kd.V_drewN | apply Kd.V_drew)); exact Kd.V_mono (Kd.V_far (p := ⟨go40, (x13_5 : Int).toNat, none⟩) (Kd.V_mono HL291_0.out (fun k_ hk => (⟨hk, fun e_ => hk.1.2 (by rw [e_]; rfl)⟩ : _ ∧ k_ ≠ go40))) (fun _ hk => hk.2) (.slice Ao92 t292.length co92)) (fun _ hk => ⟨hk.1.1.1.1, ⟨hk.1.1.2, hk.1.1.1.2⟩⟩)⟩
                                 have n5_ : Aside0 (Below w.heap.size w (w90.setCell ⟨go40, (x13_5 : Int).toNat, none⟩ (.slice Ao92 t292.length co92))) := ⟨by repeat (first | (with_reducible first | exact HB.out | apply below_alloc | apply pw_below_drewN | apply below_drew1 | refine below_set ?_ GB40.out) | exact HB.out)⟩
                                 (try clear HO_5)
                                 (try clear HO_7)
                                 (try clear HL288_0)
                                 (try clear HL290_0)
                                 (try clear HL291_0)
                                 (try clear HB)
                                 generalize (w90.setCell ⟨go40, (x13_5 : Int).toNat, none⟩ (.slice Ao92 t292.length co92)) = w93 at n0_ n1_ n2_ n3_ n4_ n5_ ⊢
                                 have HO_5 := n0_
                                 have HO_7 := n1_
                                 have HL288_0 := n2_
                                 have HL290_0 := n3_
                                 have HL291_0 := n4_
                                 have HB := n5_
                                 clear n0_ n1_ n2_ n3_ n4_ n5_
                                 have n0_ := Aside0.mk (Kd.N_drew HO_5.out)
                                 have n1_ := Aside0.mk (Kd.N_drew HO_7.out)
                                 have n2_ := Aside0.mk (Kd.V_drew HL288_0.out)
                                 have n3_ := Aside0.mk (Kd.V_drew HL290_0.out)
                                 have n4_ := Aside0.mk (Kd.V_drew HL291_0.out)
                                 have n5_ := Aside0.mk (below_drew1 HB.out)
                                 clear HO_5
                                 clear HO_7
                                 clear HL288_0
                                 clear HL290_0
                                 clear HL291_0
                                 clear HB
                                 have HO_5 := n0_
                                 have HO_7 := n1_
                                 have HL288_0 := n2_
                                 have HL290_0 := n3_
                                 have HL291_0 := n4_
                                 have HB := n5_
                                 clear n0_ n1_ n2_ n3_ n4_ n5_
                                 have p296 : 0 ≤ (x13_5 : Int) := of_decide_eq_true (by assumption)
                                 have q296 : x13_5 < (x7_5.length : Int) := of_decide_eq_true (by assumption)
                                 obtain ⟨ad296, A296_0, c296_0, e296, hx296_0, hl296_0, hi296_0⟩ := at_L2 (Kd.N_reads' HO_7.out).2.2 x13_5 p296 q296
                                 obtain rfl : (⟨go44, 0, none⟩ : Addr) = ad296 := (by injection e296)
                                 obtain ⟨ce296, hce296, hMe296, hcc296⟩ := Kd.N_get HO_7.out [] x13_5 p296 (by first | exact q296 | exact of_decide_eq_true (by assumption) | (have e_ := (Kd.N_reads' HO_7.out).1; omega))
                                 obtain ⟨ua296_0, uc296_0, rfl, ul296_0, ge296_0⟩ := Kd.FK_slice_open hMe296
                                 have hv296_0 := hcc296 0 _ rfl
                                 rw [Nat.add_zero, show ((Kd.slice 3 (Kd.int .i64))).sz = 1 from rfl, Nat.mul_one] at hv296_0
                                 replace hv296_0 := Option.some.inj (hv296_0.symm.trans hx296_0)
                                 injection hv296_0 with hva_ hvn_ hvc_
                                 rw [hva_] at ge296_0
                                 rw [hvc_] at ul296_0
                                 have HL296_0 := Aside0.mk (show Kd.V (Kd.int .i64) 3 _ w.heap.size _ _ (rd_L2 x7_5 x13_5) from Kd.V_mk ul296_0 ge296_0)
                                 clear hva_ hvn_ hvc_ ge296_0 ul296_0
                                 clear hcc296 hce296
                                 (first | simp only [add_plain] at hx296_0 | simp only [add_at] at hx296_0 | simp only [Addr.add, Nat.zero_add] at hx296_0 | skip)
                                 have HR296_0 := Aside0.mk hi296_0
                                 have HC296_0 := Aside0.mk hl296_0
                                 clear hi296_0 hl296_0
                                 replace p296 := eq_true p296
                                 replace q296 := eq_true q296
                                 have p297 : 0 ≤ (x8_3 : Int) := of_decide_eq_true (by assumption)
                                 have q297 : x8_3 < (x7_5.length : Int) := of_decide_eq_true (by assumption)
                                 obtain ⟨ad297, A297_0, c297_0, e297, hx297_0, hl297_0, hi297_0⟩ := at_L2 (Kd.N_reads' HO_7.out).2.2 x8_3 p297 q297
                                 obtain rfl : (⟨go44, 0, none⟩ : Addr) = ad297 := (by injection e297)
                                 obtain ⟨ce297, hce297, hMe297, hcc297⟩ := Kd.N_get HO_7.out [] x8_3 p297 (by first | exact q297 | exact of_decide_eq_true (by assumption) | (have e_ := (Kd.N_reads' HO_7.out).1; omega))
                                 obtain ⟨ua297_0, uc297_0, rfl, ul297_0, ge297_0⟩ := Kd.FK_slice_open hMe297
                                 have hv297_0 := hcc297 0 _ rfl
                                 rw [Nat.add_zero, show ((Kd.slice 3 (Kd.int .i64))).sz = 1 from rfl, Nat.mul_one] at hv297_0
                                 replace hv297_0 := Option.some.inj (hv297_0.symm.trans hx297_0)
                                 injection hv297_0 with hva_ hvn_ hvc_
                                 rw [hva_] at ge297_0
                                 rw [hvc_] at ul297_0
                                 have HL297_0 := Aside0.mk (show Kd.V (Kd.int .i64) 3 _ w.heap.size _ _ (rd_L2 x7_5 x8_3) from Kd.V_mk ul297_0 ge297_0)
                                 clear hva_ hvn_ hvc_ ge297_0 ul297_0
                                 clear hcc297 hce297
                                 (first | simp only [add_plain] at hx297_0 | simp only [add_at] at hx297_0 | simp only [Addr.add, Nat.zero_add] at hx297_0 | skip)
                                 have HR297_0 := Aside0.mk hi297_0
                                 have HC297_0 := Aside0.mk hl297_0
                                 clear hi297_0 hl297_0
                                 replace p297 := eq_true p297
                                 replace q297 := eq_true q297
                                 refine start_ (n := 14) (S := fun w' => w'.cell? ⟨go44, (x13_5).toNat, none⟩ = some (.slice A296_0 (rd_L2 x7_5 x13_5).length c296_0) ∧ w'.cell? ⟨go44, (x8_3).toNat, none⟩ = some (.slice A297_0 (rd_L2 x7_5 x8_3).length c297_0)) (ds := [13]) #[false, false, false, false, false, false, false, false, false, false, false, false, false, false] (by kernel_rfl) rfl rfl ⟨hx296_0, hx297_0⟩ (fun hHeld => ?_); refine with_tabW spec_InvM.tab33 spec_InvM.bits33 (fun HT_ HW_ => ?_)
                                 generalize w93.drew = w94 at HO_5 HO_7 HL288_0 HL290_0 HL291_0 HB HL296_0 HL297_0 HQ91 HR296_0 HR297_0 hx296_0 hx297_0 hHeld ⊢
                                 refine pure_ (i := 0) (N := some 166) (v := ?_) (a' := ?_) #[true, false, false, false, false, false, false, false, false, false, false, false, false, false] rfl rfl (any_of HT_.out (by kernel_rfl)) (fun _ _ _ h => h) (Or.inl ⟨by rfl, ?_⟩) ?_ ?_
                                 rotate_left
                                 ·intro w'
                                  go_simp
                                  with_reducible rfl
                                 rotate_left
                                 ·simp only [Act.put, List.setIfInBounds_toArray, List.set_cons_zero, List.set_cons_succ, i64_w, i32_w]
                                  rfl
                                 refine pure_ (i := 1) (N := some 167) (v := ?_) (a' := ?_) #[true, true, false, false, false, false, false, false, false, false, false, false, false, false] rfl rfl (any_of HT_.out (by kernel_rfl)) (fun _ _ _ h => h) (Or.inl ⟨by rfl, ?_⟩) ?_ ?_
                                 rotate_left
                                 ·intro w'
                                  go_simp
                                  with_reducible rfl
                                 rotate_left
                                 ·simp only [Act.put, List.setIfInBounds_toArray, List.set_cons_zero, List.set_cons_succ, i64_w, i32_w]
                                  rfl
                                 refine pure_ (i := 2) (N := some 168) (v := ?_) (a' := ?_) #[true, true, true, false, false, false, false, false, false, false, false, false, false, false] rfl rfl (any_of HT_.out (by kernel_rfl)) (fun _ _ _ h => h) (Or.inl ⟨by rfl, ?_⟩) ?_ ?_
                                 rotate_left
                                 ·intro w'
                                  go_simp
                                  with_reducible rfl
                                 rotate_left
                                 ·simp only [Act.put, List.setIfInBounds_toArray, List.set_cons_zero, List.set_cons_succ, i64_w, i32_w]
                                  rfl
                                 refine pure_ (i := 3) (N := some 169) (v := ?_) (a' := ?_) #[true, true, true, true, false, false, false, false, false, false, false, false, false, false] rfl rfl (any_of HT_.out (by kernel_rfl)) (fun _ _ _ h => h) (Or.inl ⟨by rfl, ?_⟩) ?_ ?_
                                 rotate_left
                                 ·intro w'
                                  go_simp
                                  with_reducible rfl
                                 rotate_left
                                 ·simp only [Act.put, List.setIfInBounds_toArray, List.set_cons_zero, List.set_cons_succ, i64_w, i32_w]
                                  rfl
                                 refine pure_ (i := 4) (N := some 170) (v := ?_) (a' := ?_) #[true, true, true, true, true, false, false, false, false, false, false, false, false, false] rfl rfl (any_of HT_.out (by kernel_rfl)) (fun _ _ _ h => h) (Or.inl ⟨by rfl, ?_⟩) ?_ ?_
                                 rotate_left
                                 ·intro w'
                                  go_simp
                                  with_reducible rfl
                                 rotate_left
                                 ·simp only [Act.put, List.setIfInBounds_toArray, List.set_cons_zero, List.set_cons_succ, i64_w, i32_w]
                                  rfl
                                 refine pure_ (i := 6) (N := some 172) (v := ?_) (a' := ?_) #[true, true, true, true, true, false, true, false, false, false, false, false, false, false] rfl rfl (any_of HT_.out (by kernel_rfl)) (fun _ _ _ h => h) (Or.inl ⟨by rfl, ?_⟩) ?_ ?_
                                 rotate_left
                                 ·intro w'
                                  go_simp
                                  with_reducible rfl
                                 rotate_left
                                 ·simp only [Act.put, List.setIfInBounds_toArray, List.set_cons_zero, List.set_cons_succ, i64_w, i32_w]
                                  rfl
                                 refine pure_ (i := 7) (N := some 173) (v := ?_) (a' := ?_) #[true, true, true, true, true, false, true, true, false, false, false, false, false, false] rfl rfl (any_of HT_.out (by kernel_rfl)) (fun _ _ _ h => h) (Or.inl ⟨by rfl, ?_⟩) ?_ ?_
                                 rotate_left
                                 ·intro w'
                                  go_simp
                                  with_reducible rfl
                                 rotate_left
                                 ·simp only [Act.put, List.setIfInBounds_toArray, List.set_cons_zero, List.set_cons_succ, i64_w, i32_w]
                                  rfl
                                 refine pure_ (i := 8) (N := some 174) (v := ?_) (a' := ?_) #[true, true, true, true, true, false, true, true, true, false, false, false, false, false] rfl rfl (any_of HT_.out (by kernel_rfl)) (fun _ _ _ h => h) (Or.inl ⟨by rfl, ?_⟩) ?_ ?_
                                 rotate_left
                                 ·intro w'
                                  go_simp
                                  with_reducible rfl
                                 rotate_left
                                 ·simp only [Act.put, List.setIfInBounds_toArray, List.set_cons_zero, List.set_cons_succ, i64_w, i32_w]
                                  rfl
                                 refine pure_ (i := 10) (N := some 176) (v := ?_) (a' := ?_) #[true, true, true, true, true, false, true, true, true, false, true, false, false, false] rfl rfl (any_of HT_.out (by kernel_rfl)) (fun _ _ _ h => h) (Or.inl ⟨by rfl, ?_⟩) ?_ ?_
                                 rotate_left
                                 ·intro w'
                                  go_simp
                                  with_reducible rfl
                                 rotate_left
                                 ·simp only [Act.put, List.setIfInBounds_toArray, List.set_cons_zero, List.set_cons_succ, i64_w, i32_w]
                                  rfl
                                 refine take_ (i := 5) (N := some 171) (v := ?_) (a' := ?_) #[true, true, true, true, true, true, true, true, true, false, true, false, false, false] rfl rfl (take_ofW HT_.out HW_.out (by kernel_rfl)) (fun _ _ _ h => h) (Or.inl ⟨by rfl, ?_⟩) hHeld ?_ ?_
                                 rotate_left
                                 ·rintro w' ⟨s0, s1⟩
                                  go_simp
                                  with_reducible rfl
                                 rotate_left
                                 ·simp only [Act.put, List.setIfInBounds_toArray, List.set_cons_zero, List.set_cons_succ, i64_w, i32_w]
                                  rfl
                                 refine take_ (i := 9) (N := some 175) (v := ?_) (a' := ?_) #[true, true, true, true, true, true, true, true, true, true, true, false, false, false] rfl rfl (take_ofW HT_.out HW_.out (by kernel_rfl)) (fun _ _ _ h => h) (Or.inl ⟨by rfl, ?_⟩) hHeld ?_ ?_
                                 rotate_left
                                 ·rintro w' ⟨s0, s1⟩
                                  go_simp
                                  with_reducible rfl
                                 rotate_left
                                 ·simp only [Act.put, List.setIfInBounds_toArray, List.set_cons_zero, List.set_cons_succ, i64_w, i32_w]
                                  rfl
                                 refine one_ (i := 11) (N := some 177) #[true, true, true, true, true, true, true, true, true, true, true, true, false, false] rfl rfl (one_of HT_.out (by kernel_rfl)) (by decide) (fun K hK => ?_)
                                 refine goes_ Try.func64 (by kernel_rfl) rfl #[.slice A296_0 (rd_L2 x7_5 x13_5).length c296_0, .slice A297_0 (rd_L2 x7_5 x8_3).length c297_0, .int .i64 (rd (rd_L2 x5_5 x13_5) x8_3)] (by rfl) rfl rfl (by (try simp only [List.map_toArray, List.map_cons, List.map_nil]); first | done | rfl) ?_
                                 with_reducible refine (spec_l06Row.calls kj70 _ _ (rd_L2 x7_5 x13_5) _ _ (rd_L2 x7_5 x8_3) (rd (rd_L2 x5_5 x13_5) x8_3) t298 _ ?side1 ?side2 ?side3 ?side4 A87.out).mono ?_
                                 (case side1 => repeat (first | exact (by repeat (first | (with_reducible exact HR296_0.out) | (with_reducible refine Kd.C_alloc ?_ _) | (with_reducible refine Kd.C_drewN ?_ _) | (with_reducible refine Kd.C_drew ?_) | exact HR296_0.out)) | (with_reducible refine Kd.C_alloc ?_ _) | (with_reducible refine Kd.C_drewN ?_ _) | (with_reducible refine Kd.C_drew ?_)))
                                 (case side2 => exact HC296_0.out)
                                 (case side3 => repeat (first | exact (by repeat (first | (with_reducible exact HR297_0.out) | (with_reducible refine Kd.C_alloc ?_ _) | (with_reducible refine Kd.C_drewN ?_ _) | (with_reducible refine Kd.C_drew ?_) | exact HR297_0.out)) | (with_reducible refine Kd.C_alloc ?_ _) | (with_reducible refine Kd.C_drewN ?_ _) | (with_reducible refine Kd.C_drew ?_)))
                                 (case side4 => exact HC297_0.out)
                                 rintro e w95 ⟨v299, rfl, ho0, hb⟩
                                 have HS0_ := (hb.cell (World.block_lt_of_cell? _ _ (hHeld.1))).trans (hHeld.1)
                                 have HS1_ := (hb.cell (World.block_lt_of_cell? _ _ (hHeld.2))).trans (hHeld.2)
                                 refine ⟨_, rfl, ?_⟩
                                 have n0_ := Aside0.mk (Kd.N_elder' (by (with_reducible repeat (first | apply Kd.N_alloc | apply Kd.N_drewN | apply Kd.N_drew)); exact HO_5.out) (Kd.R_base ho0) hb)
                                 have n1_ := Aside0.mk (Kd.N_elder' (by (with_reducible repeat (first | apply Kd.N_alloc | apply Kd.N_drewN | apply Kd.N_drew)); exact HO_7.out) (Kd.R_base ho0) hb)
                                 have n2_ := Aside0.mk (Kd.V_elder' (by (with_reducible repeat (first | apply Kd.V_alloc | apply Kd.V_drewN | apply Kd.V_drew)); exact HL288_0.out) (Kd.R_base ho0) hb)
                                 have n3_ := Aside0.mk (Kd.V_elder' (by (with_reducible repeat (first | apply Kd.V_alloc | apply Kd.V_drewN | apply Kd.V_drew)); exact HL290_0.out) (Kd.R_base ho0) hb)
                                 have n4_ := Aside0.mk (Kd.V_elder' (by (with_reducible repeat (first | apply Kd.V_alloc | apply Kd.V_drewN | apply Kd.V_drew)); exact HL291_0.out) (Kd.R_base ho0) hb)
                                 have n5_ := Aside0.mk (Kd.V_elder' (by (with_reducible repeat (first | apply Kd.V_alloc | apply Kd.V_drewN | apply Kd.V_drew)); exact HL296_0.out) (Kd.R_base ho0) hb)
                                 have n6_ := Aside0.mk (Kd.V_elder' (by (with_reducible repeat (first | apply Kd.V_alloc | apply Kd.V_drewN | apply Kd.V_drew)); exact HL297_0.out) (Kd.R_base ho0) hb)
                                 have n7_ := Aside0.mk (Kd.R_lower (Kd.R_newM (M := fun k_ => (w.heap.size ≤ k_)) ho0 (below_size (by repeat (first | exact HB.out | apply below_alloc | apply pw_below_drewN | apply below_drew1))) (fun k_ h_ => h_)) (below_size (by repeat (first | exact HB.out | apply below_alloc | apply pw_below_drewN | apply below_drew1))))
                                 have n8_ := Aside0.mk (Kd.C_below (by repeat (first | (with_reducible exact HR296_0.out) | (with_reducible refine Kd.C_alloc ?_ _) | (with_reducible refine Kd.C_drewN ?_ _) | (with_reducible refine Kd.C_drew ?_) | exact HR296_0.out)) hb)
                                 have n9_ := Aside0.mk (Kd.C_below (by repeat (first | (with_reducible exact HR297_0.out) | (with_reducible refine Kd.C_alloc ?_ _) | (with_reducible refine Kd.C_drewN ?_ _) | (with_reducible refine Kd.C_drew ?_) | exact HR297_0.out)) hb)
                                 have n10_ := Aside0.mk (below_step (by repeat (first | exact HB.out | apply below_alloc | apply pw_below_drewN | apply below_drew1)) hb)
                                 clear HO_5
                                 clear HO_7
                                 clear HL288_0
                                 clear HL290_0
                                 clear HL291_0
                                 clear HL296_0
                                 clear HL297_0
                                 clear HR296_0
                                 clear HR297_0
                                 clear HB
                                 have HO_5 := n0_
                                 have HO_7 := n1_
                                 have HL288_0 := n2_
                                 have HL290_0 := n3_
                                 have HL291_0 := n4_
                                 have HL296_0 := n5_
                                 have HL297_0 := n6_
                                 have HO300 := n7_
                                 have HR296_0 := n8_
                                 have HR297_0 := n9_
                                 have HB := n10_
                                 clear n0_ n1_ n2_ n3_ n4_ n5_ n6_ n7_ n8_ n9_ n10_
                                 (try clear hb)
                                 (try clear hb2)
                                 (try clear hk)
                                 (try clear hi)
                                 (try clear ho0)
                                 have p88 : 0 ≤ (x13_5 : Int) := of_decide_eq_true (by assumption)
                                 have q88 : (x13_5 : Int) < ((x7_5.length : Int) : Int) := of_decide_eq_true (by assumption)
                                 obtain ⟨ce88, hcl88, hM88, hcc88, hfr88⟩ := Kd.N_elem HO_7.out [] (x13_5 : Int) p88 q88
                                 obtain ⟨ua88_0, uc88_0, rfl, ul88_0, ge88_0⟩ := Kd.FK_slice_open hM88
                                 have hx88_0 := hcc88 0 _ rfl
                                 have hf88_0 := hfr88 0
                                 (try simp only [show ((Kd.slice 3 (Kd.int .i64))).sz = 1 from rfl, Nat.mul_one, Nat.add_zero] at hx88_0)
                                 (try simp only [show ((Kd.slice 3 (Kd.int .i64))).sz = 1 from rfl, Nat.mul_one, Nat.add_zero] at hf88_0)
                                 (try clear hM88); clear hcl88 hcc88 hfr88
                                 replace p88 := eq_true p88
                                 replace q88 := eq_true q88
                                 obtain ⟨Ao97, co97, eo97⟩ := Kd.R_slice HO300.out
                                 (first | subst eo97 | (injection eo97 with f1_ f2_ f3_; have f4_ := f1_.symm; have f5_ := f3_.symm; clear f1_ f2_ f3_; subst f4_; subst f5_))
                                 have HX96 := Aside0.mk (show Kd.N (Kd.slice 3 (Kd.int .i64)) 43 _ w.heap.size (fun k_ => (w.heap.size ≤ k_) ∧ some k_ ≠ (.slice (some ⟨go40, 0, none⟩) x5_5.length co52 : Value).ownBlock ∧ some k_ ≠ (.slice Ao97 t298.length co97 : Value).ownBlock) (.slice (some ⟨go44, 0, none⟩) x7_5.length co57) x7_5 from (Kd.N_mono (HO_7.out) (fun k_ hk => ⟨hk.1.1, ⟨hk.1.2, hk.2⟩⟩)))
                                 replace HX96 := Aside0.mk (show Kd.N (Kd.slice 3 (Kd.int .i64)) 43 _ w.heap.size (fun k_ => (w.heap.size ≤ k_) ∧ some k_ ≠ (.slice (some ⟨go40, 0, none⟩) x5_5.length co52 : Value).ownBlock) (.slice (some ⟨go44, 0, none⟩) x7_5.length co57) x7_5 from Kd.N_mono HX96.out (fun k_ hk => ⟨hk.1, hk.2.1⟩))
                                 obtain ⟨ce96, hcl96, hM96, hcc96, hfr96⟩ := Kd.N_elem HX96.out [] (x13_5 : Int) (of_decide_eq_true (by assumption)) (by have h_ : (x13_5 : Int) < ((x7_5.length : Int) : Int) := of_decide_eq_true (by assumption); first | exact h_ | (have e_ := (Kd.N_reads' HO_7.out).1; omega) | simpa using h_)
                                 obtain ⟨ua96_0, uc96_0, rfl, ul96_0, ge96_0⟩ := Kd.FK_slice_open hM96
                                 have HP96 := (Kd.N_seg HX96.out (x13_5 : Int) (of_decide_eq_true (by assumption)) (by have h_ : (x13_5 : Int) < ((x7_5.length : Int) : Int) := of_decide_eq_true (by assumption); first | exact h_ | (have e_ := (Kd.N_reads' HO_7.out).1; omega) | simpa using h_) (seg := [.slice Ao97 t298.length co97]) (j := 0) hcl96 hcc96 (show 1 ≤ 1 from by decide) (x' := t298) (Kd.FK_slice_mk (Kd.R_reads' (Kd.R_mono (ok' := (fun k_ => ((fun k_ => (w.heap.size ≤ k_) ∧ some k_ ≠ (.slice (some ⟨go40, 0, none⟩) x5_5.length co52 : Value).ownBlock)) k_ ∧ k_ ≠ go44)) (Kd.R_apart' (Kd.R_apart' (HO300.out) (Kd.N_typed HO_5.out) (by decide)) (Kd.N_typed HO_7.out) (by decide)) (fun k_ hk => ⟨⟨hk.1.1.1, hk.1.2⟩, fun e_ => (hk.2) (by rw [e_]; rfl)⟩))).2.1 (Kd.R_F (Kd.R_mono (ok' := (fun k_ => ((fun k_ => (w.heap.size ≤ k_) ∧ some k_ ≠ (.slice (some ⟨go40, 0, none⟩) x5_5.length co52 : Value).ownBlock)) k_ ∧ k_ ≠ go44)) (Kd.R_apart' (Kd.R_apart' (HO300.out) (Kd.N_typed HO_5.out) (by decide)) (Kd.N_typed HO_7.out) (by decide)) (fun k_ hk => ⟨⟨hk.1.1.1, hk.1.2⟩, fun e_ => (hk.2) (by rw [e_]; rfl)⟩)))) (fun _ hk => hk)).1
                                 (try simp only [show ((Kd.slice 3 (Kd.int .i64))).sz = 1 from rfl, Nat.mul_one, Nat.add_zero] at HP96)
                                 rw [← Ny301.out] at HP96
                                 have HQ96 := Aside0.mk HP96
                                 (try clear hM96); clear hcl96 hcc96 hfr96 HP96
                                 refine hK.out _ _ ⟨HS0_, HS1_⟩ (fun hHeld => ?_)
                                 clear hK K
                                 refine norm_ (a' := ?_) ?_ ?_
                                 rotate_left
                                 ·show Act.put _ (some 177) _ = _
                                  simp only [Act.put, List.setIfInBounds_toArray, List.set_cons_zero, List.set_cons_succ, i64_w, i32_w]
                                  rfl
                                 refine pure_ (i := 12) (N := some 178) (v := ?_) (a' := ?_) #[true, true, true, true, true, true, true, true, true, true, true, true, true, false] rfl rfl (any_of HT_.out (by kernel_rfl)) (fun _ _ _ h => h) (Or.inl ⟨by rfl, ?_⟩) ?_ ?_
                                 rotate_left
                                 ·intro w'
                                  go_simp
                                  with_reducible rfl
                                 rotate_left
                                 ·simp only [Act.put, List.setIfInBounds_toArray, List.set_cons_zero, List.set_cons_succ, i64_w, i32_w]
                                  rfl
                                 refine last_ (i := 13) (N := none) #[true, true, true, true, true, true, true, true, true, true, true, true, true, true] rfl rfl (one_of HT_.out (by kernel_rfl)) (by decide) (fun K hK => ?_)
                                 refine skip_ (w1 := ?_) (by rfl) rfl ?_ ?_
                                 rotate_left
                                 ·go_simp
                                  rfl
                                 refine hK.out _ _ ?_
                                 clear hK K
                                 refine done_ (done_of HT_.out (by kernel_rfl)) ?_
                                 try go_wp2
                                 (try simp only [← hl5_5, ← hl7_5])
                                 go_roundg kj70
                                 case measure => have := HJ1.out; have := HK2.out; have := HK3.out; have := HJ23.out; have := HK5.out; have := HJ70.out; omega
                                 case rel => exact ⟨(y295), (y301), (wrap64 (x13_5 + 1)), (by first | rfl | (simp; done) | (simp [*]; done)), H', ⟨by have := HJ1.out; have := HK2.out; have := HK3.out; have := HJ23.out; have := HK5.out; have := HJ70.out; omega⟩, ⟨by (try simp only [hl5_5]); (try simp only [hl7_5]); (with_reducible repeat (first | apply Kd.N_alloc | apply Kd.N_drewN | apply Kd.N_drew)); exact Kd.N_mono (Kd.N_far (p := ⟨go44, (x13_5 : Int).toNat, none⟩) (Kd.N_mono HO_5.out (fun k_ hk => (⟨hk, fun e_ => hk.1.2 (by rw [e_]; rfl)⟩ : _ ∧ k_ ≠ go44))) (fun _ hk => hk.2) (.slice Ao97 t298.length co97)) (fun _ hk => ⟨hk.1.1.1, hk.1.1.2⟩)⟩, ⟨by (try simp only [hl5_5]); (try simp only [hl7_5]); (with_reducible repeat (first | apply Kd.N_alloc | apply Kd.N_drewN | apply Kd.N_drew)); exact HQ96.out⟩, ⟨by repeat (first | (with_reducible first | exact HB.out | apply below_alloc | apply pw_below_drewN | apply below_drew1 | refine below_set ?_ GB44.out) | exact HB.out)⟩⟩
                                ·rw [if_neg c86] at H
                                 exact absurd H (by simp)
                               ·rw [if_neg c85] at H
                                exact absurd H (by simp)
                              ·rw [if_neg c82] at H
                               exact absurd H (by simp)
                             ·rw [if_neg c81] at H
                              exact absurd H (by simp)
                            ·rw [if_neg c80] at H
                             exact absurd H (by simp)
                           ·rw [if_neg c79] at H
                            exact absurd H (by simp)
                          ·rw [if_neg c78] at H
                           exact absurd H (by simp)
                         ·replace c77 := Bool.eq_false_iff.mpr c77
                          subst c77
                          have H1 : (spec_InvM.l3 kj70 (l0.length : Int) x5_5 x7_5 x8_3 (wrap64 (x13_5 + 1))) = some (r1, r2) := by rw [if_neg (show ¬ (false = true) by decide)] at H; exact H
                          clear H
                          have H := H1
                          clear H1
                          have H' := Aside0.mk H
                          clear H
                          go_wp2
                          (try simp only [← hl5_5, ← hl7_5])
                          go_roundg kj70
                          case measure => have := HJ1.out; have := HK2.out; have := HK3.out; have := HJ23.out; have := HK5.out; have := HJ70.out; omega
                          case rel => exact ⟨(x5_5), (x7_5), (wrap64 (x13_5 + 1)), (by first | rfl | (simp; done) | (simp [*]; done)), H', ⟨by have := HJ1.out; have := HK2.out; have := HK3.out; have := HJ23.out; have := HK5.out; have := HJ70.out; omega⟩, ⟨by (try simp only [hl5_5]); (try simp only [hl7_5]); (with_reducible repeat (first | apply Kd.N_alloc | apply Kd.N_drewN | apply Kd.N_drew)); exact HO_5.out⟩, ⟨by (try simp only [hl5_5]); (try simp only [hl7_5]); (with_reducible repeat (first | apply Kd.N_alloc | apply Kd.N_drewN | apply Kd.N_drew)); exact HO_7.out⟩, ⟨by repeat (first | exact HB.out | apply below_alloc | apply pw_below_drewN | apply below_drew1)⟩⟩
                      ·rw [if_neg c70] at H
                       have c70b0 : decide (x13_5 < (l0.length : Int)) = false := decide_eq_false c70
                       clear c70
                       have H' := Aside0.mk H
                       clear H
                       go_wp2
                       (try simp only [← hl5_5, ← hl7_5])
                       go_roundg k5
                       case measure => have := HJ1.out; have := HK2.out; have := HK3.out; have := HJ23.out; have := HK5.out; omega
                       case rel => exact ⟨(x5_5), (x7_5), (wrap64 (x8_3 + 1)), (by first | rfl | (simp; done) | (simp [*]; done)), H', ⟨by have := HJ1.out; have := HK2.out; have := HK3.out; have := HJ23.out; have := HK5.out; omega⟩, ⟨by (try simp only [hl5_5]); (try simp only [hl7_5]); (with_reducible repeat (first | apply Kd.N_alloc | apply Kd.N_drewN | apply Kd.N_drew)); exact HO_5.out⟩, ⟨by (try simp only [hl5_5]); (try simp only [hl7_5]); (with_reducible repeat (first | apply Kd.N_alloc | apply Kd.N_drewN | apply Kd.N_drew)); exact HO_7.out⟩, ⟨by repeat (first | exact HB.out | apply below_alloc | apply pw_below_drewN | apply below_drew1)⟩⟩
                   ·rw [if_neg c46] at H
                    exact absurd H (by simp)
                  ·rw [if_neg c43] at H
                   exact absurd H (by simp)
                 ·rw [if_neg c42] at H
                  exact absurd H (by simp)
                ·rw [if_neg c39] at H
                 exact absurd H (by simp)
               ·rw [if_neg c38] at H
                exact absurd H (by simp)
              ·rw [if_neg c37] at H
               exact absurd H (by simp)
             ·rw [if_neg c36] at H
              exact absurd H (by simp)
         ·rw [if_neg c23] at H
          have c23b0 : decide (x8_3 < (l0.length : Int)) = false := decide_eq_false c23
          clear c23
          simp only [Option.some.injEq, Prod.mk.injEq] at H
          obtain ⟨rfl, rfl⟩ := H
          go_wp2
          go_ret2
          exact ⟨_, by first | rfl | (simp [errW_none, errW_some] <;> rfl) | (simp [*, errW_none, errW_some] <;> rfl), by (with_reducible repeat (first | apply Kd.N_alloc | apply Kd.N_drewN | apply Kd.N_drew)); exact Kd.N_mono HO_7.out (fun _ hk => hk.1), by repeat (first | exact HB.out | apply below_alloc | apply pw_below_drewN | apply below_drew1)⟩

end Go.Proofs.Ythjdnjmlamfdbaa.XFnInverses
