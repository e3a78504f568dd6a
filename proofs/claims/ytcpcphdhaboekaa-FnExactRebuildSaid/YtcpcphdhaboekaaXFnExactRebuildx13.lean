import Derived.Test.YtcpcphdhaboekaaXFnExactRebuildx0
import Derived.Test.YtcpcphdhaboekaaXFnExactRebuildx5
import Derived.Test.YtcpcphdhaboekaaXFnExactRebuildx9
import Derived.Test.YtcpcphdhaboekaaXFnExactRebuildx10
import Derived.Test.YtcpcphdhaboekaaXFnExactRebuildx11
import Derived.Test.YtcpcphdhaboekaaXFnExactRebuildx12
namespace Go.Proofs.Ytcpcphdhaboekaa.XFnExactRebuild
open Go.RowKit Go.Proofs.YtcpcphdhaboekaaU.PrintWords Go.Proofs.YtcpcphdhaboekaaU.PrintLast Go.Proofs.YtcpcphdhaboekaaU.PrintMore
attribute [local go_sem] max2_int min2_int max_two min_two max_three min_three max_four min_four
set_option linter.unusedVariables false
set_option linter.unusedSimpArgs false
mutual
def spec_InvM.j0 : Nat → List (List Int) → Bool → Option ((List (List Int)) × Bool)
 | 0, _, _ => none
 | k + 1, x0, x26 => if x26 = true then (some ((([] : List (List Int))), false)) else (spec_InvM.l0 k x0 (x0.length : Int) (([] : List (List Int))) 0)
def spec_InvM.l0 : Nat → List (List Int) → Int → List (List Int) → Int → Option ((List (List Int)) × Bool)
 | 0, _, _, _, _ => none
 | k + 1, x0, x4, x5, x6 => if x6 < x4 then ((some (([] : List Int) : List Int)).bind fun y393 => (if 0 ≤ x6 then (if x6 < (x0.length : Int) then (if y393.length + (rd_L2 x0 x6).length < 17592186044416 then (if x5.length < 5864062014805 then (spec_InvM.l0 k x0 x4 (x5 ++ [(y393 ++ (rd_L2 x0 x6))]) (wrap64 (x6 + 1))) else (none)) else (none)) else (none)) else (none))) else ((spec_OneM.f k x4).bind fun t403 => (spec_InvM.l1 k x4 x5 t403 0))
def spec_InvM.l1 : Nat → Int → List (List Int) → List (List Int) → Int → Option ((List (List Int)) × Bool)
 | 0, _, _, _, _ => none
 | k + 1, x4, x5, x7, x8 => if x8 < x4 then (spec_InvM.l2 k x4 x5 x7 x8 x8) else (some (x7, true))
def spec_InvM.j4 : Nat → Int → List (List Int) → List (List Int) → Int → Int → Option ((List (List Int)) × Bool)
 | 0, _, _, _, _, _ => none
 | k + 1, x4, x5, x7, x8, x9 => if x9 = x4 then (some ((([] : List (List Int))), false)) else (if 0 ≤ x9 then (if x9 < (x5.length : Int) then (if 0 ≤ x8 then (if x8 < (x5.length : Int) then ((some ((x5.set (x9 : Int).toNat (rd_L2 x5 x8)).set (x8 : Int).toNat (rd_L2 x5 x9) : List (List Int))).bind fun y414 => (if x9 < (x7.length : Int) then (if x8 < (x7.length : Int) then ((some ((x7.set (x9 : Int).toNat (rd_L2 x7 x8)).set (x8 : Int).toNat (rd_L2 x7 x9) : List (List Int))).bind fun y418 => (if x8 < ((rd_L2 y414 x8).length : Int) then ((spec_InvG.f k (rd (rd_L2 y414 x8) x8)).bind fun t421 => ((spec_l06Times.f k (rd_L2 y414 x8) t421).bind fun t423 => ((spec_l06Times.f k (rd_L2 y418 x8) t421).bind fun t428 => (spec_InvM.l3 k x4 (y414.set (x8 : Int).toNat t423) (y418.set (x8 : Int).toNat t428) x8 0)))) else (none))) else (none)) else (none))) else (none)) else (none)) else (none)) else (none))
def spec_InvM.l3 : Nat → Int → List (List Int) → List (List Int) → Int → Int → Option ((List (List Int)) × Bool)
 | 0, _, _, _, _, _ => none
 | k + 1, x4, x5, x7, x8, x13 => if x13 < x4 then (if x13 = x8 then (spec_InvM.j6 k x4 x5 x7 x8 x13 false) else (if 0 ≤ x13 then (if x13 < (x5.length : Int) then (if 0 ≤ x8 then (if x8 < ((rd_L2 x5 x13).length : Int) then (spec_InvM.j6 k x4 x5 x7 x8 x13 ((rd (rd_L2 x5 x13) x8) != 0)) else (none)) else (none)) else (none)) else (none))) else (spec_InvM.l1 k x4 x5 x7 (wrap64 (x8 + 1)))
def spec_InvM.j6 : Nat → Int → List (List Int) → List (List Int) → Int → Int → Bool → Option ((List (List Int)) × Bool)
 | 0, _, _, _, _, _, _ => none
 | k + 1, x4, x5, x7, x8, x13, x145 => if x145 = true then (if 0 ≤ x13 then (if x13 < (x5.length : Int) then (if 0 ≤ x8 then (if x8 < ((rd_L2 x5 x13).length : Int) then (if x8 < (x5.length : Int) then ((spec_l06Row.f k (rd_L2 x5 x13) (rd_L2 x5 x8) (rd (rd_L2 x5 x13) x8)).bind fun t438 => (if x13 < (x7.length : Int) then (if x8 < (x7.length : Int) then ((spec_l06Row.f k (rd_L2 x7 x13) (rd_L2 x7 x8) (rd (rd_L2 x5 x13) x8)).bind fun t444 => (spec_InvM.l3 k x4 (x5.set (x13 : Int).toNat t438) (x7.set (x13 : Int).toNat t444) x8 (wrap64 (x13 + 1)))) else (none)) else (none))) else (none)) else (none)) else (none)) else (none)) else (none)) else (spec_InvM.l3 k x4 x5 x7 x8 (wrap64 (x13 + 1)))
def spec_InvM.l2 : Nat → Int → List (List Int) → List (List Int) → Int → Int → Option ((List (List Int)) × Bool)
 | 0, _, _, _, _, _ => none
 | k + 1, x4, x5, x7, x8, x9 => if x9 < x4 then (if 0 ≤ x9 then (if x9 < (x5.length : Int) then (if 0 ≤ x8 then (if x8 < ((rd_L2 x5 x9).length : Int) then (if (rd (rd_L2 x5 x9) x8) = 0 then (spec_InvM.l2 k x4 x5 x7 x8 (wrap64 (x9 + 1))) else (spec_InvM.j4 k x4 x5 x7 x8 x9)) else (none)) else (none)) else (none)) else (none)) else (spec_InvM.j4 k x4 x5 x7 x8 x9)
end
def spec_InvM.f (k : Nat) (l0 : List (List Int)) : Option ((List (List Int)) × Bool) := (spec_MatrixOk.f k l0).bind fun t385 => (if t385 = true then (if 0 < (l0.length : Int) then (spec_InvM.j0 k l0 ((l0.length : Int) != ((rd_L2 l0 0).length : Int))) else (none)) else (spec_InvM.j0 k l0 true))
theorem spec_InvM.mono_l : ∀ k, (∀ y0 y1, LeO (spec_InvM.j0 k y0 y1) (spec_InvM.j0 (k + 1) y0 y1)) ∧ (∀ y0 y1 y2 y3, LeO (spec_InvM.l0 k y0 y1 y2 y3) (spec_InvM.l0 (k + 1) y0 y1 y2 y3)) ∧ (∀ y0 y1 y2 y3, LeO (spec_InvM.l1 k y0 y1 y2 y3) (spec_InvM.l1 (k + 1) y0 y1 y2 y3)) ∧ (∀ y0 y1 y2 y3 y4, LeO (spec_InvM.j4 k y0 y1 y2 y3 y4) (spec_InvM.j4 (k + 1) y0 y1 y2 y3 y4)) ∧ (∀ y0 y1 y2 y3 y4, LeO (spec_InvM.l3 k y0 y1 y2 y3 y4) (spec_InvM.l3 (k + 1) y0 y1 y2 y3 y4)) ∧ (∀ y0 y1 y2 y3 y4 y5, LeO (spec_InvM.j6 k y0 y1 y2 y3 y4 y5) (spec_InvM.j6 (k + 1) y0 y1 y2 y3 y4 y5)) ∧ (∀ y0 y1 y2 y3 y4, LeO (spec_InvM.l2 k y0 y1 y2 y3 y4) (spec_InvM.l2 (k + 1) y0 y1 y2 y3 y4))
 | 0 => ⟨fun _ _ r h => by simp [spec_InvM.j0] at h, fun _ _ _ _ r h => by simp [spec_InvM.l0] at h, fun _ _ _ _ r h => by simp [spec_InvM.l1] at h, fun _ _ _ _ _ r h => by simp [spec_InvM.j4] at h, fun _ _ _ _ _ r h => by simp [spec_InvM.l3] at h, fun _ _ _ _ _ _ r h => by simp [spec_InvM.j6] at h, fun _ _ _ _ _ r h => by simp [spec_InvM.l2] at h⟩
 | k + 1 => by
  obtain ⟨ih0, ih1, ih2, ih3, ih4, ih5, ih6⟩ := spec_InvM.mono_l k
  refine ⟨?_, ?_, ?_, ?_, ?_, ?_, ?_⟩
  ·intro y0 y1
   unfold spec_InvM.j0
   repeat' first
   | (with_reducible exact ih0 _ _)
   | (with_reducible exact ih1 _ _ _ _)
   | (with_reducible exact ih2 _ _ _ _)
   | (with_reducible exact ih3 _ _ _ _ _)
   | (with_reducible exact ih4 _ _ _ _ _)
   | (with_reducible exact ih5 _ _ _ _ _ _)
   | (with_reducible exact ih6 _ _ _ _ _)
   | (with_reducible exact spec_InvG.mono _ _)
   | (with_reducible exact spec_MatrixOk.mono _ _)
   | (with_reducible exact spec_OneM.mono _ _)
   | (with_reducible exact spec_l06Row.mono _ _ _ _)
   | (with_reducible exact spec_l06Times.mono _ _ _)
   | (with_reducible exact LeO.refl _)
   | (with_reducible refine LeO.ite ?_ ?_)
   | (with_reducible refine LeO.bind ?_ (fun _ => ?_))
   | exact ih0 _ _
   | exact ih1 _ _ _ _
   | exact ih2 _ _ _ _
   | exact ih3 _ _ _ _ _
   | exact ih4 _ _ _ _ _
   | exact ih5 _ _ _ _ _ _
   | exact ih6 _ _ _ _ _
   | exact spec_InvG.mono _ _
   | exact spec_MatrixOk.mono _ _
   | exact spec_OneM.mono _ _
   | exact spec_l06Row.mono _ _ _ _
   | exact spec_l06Times.mono _ _ _
   | exact LeO.none _
   | refine LeO.ite ?_ ?_
   | refine LeO.bind ?_ (fun _ => ?_)
  ·intro y0 y1 y2 y3
   unfold spec_InvM.l0
   repeat' first
   | (with_reducible exact ih0 _ _)
   | (with_reducible exact ih1 _ _ _ _)
   | (with_reducible exact ih2 _ _ _ _)
   | (with_reducible exact ih3 _ _ _ _ _)
   | (with_reducible exact ih4 _ _ _ _ _)
   | (with_reducible exact ih5 _ _ _ _ _ _)
   | (with_reducible exact ih6 _ _ _ _ _)
   | (with_reducible exact spec_InvG.mono _ _)
   | (with_reducible exact spec_MatrixOk.mono _ _)
   | (with_reducible exact spec_OneM.mono _ _)
   | (with_reducible exact spec_l06Row.mono _ _ _ _)
   | (with_reducible exact spec_l06Times.mono _ _ _)
   | (with_reducible exact LeO.refl _)
   | (with_reducible refine LeO.ite ?_ ?_)
   | (with_reducible refine LeO.bind ?_ (fun _ => ?_))
   | exact ih0 _ _
   | exact ih1 _ _ _ _
   | exact ih2 _ _ _ _
   | exact ih3 _ _ _ _ _
   | exact ih4 _ _ _ _ _
   | exact ih5 _ _ _ _ _ _
   | exact ih6 _ _ _ _ _
   | exact spec_InvG.mono _ _
   | exact spec_MatrixOk.mono _ _
   | exact spec_OneM.mono _ _
   | exact spec_l06Row.mono _ _ _ _
   | exact spec_l06Times.mono _ _ _
   | exact LeO.none _
   | refine LeO.ite ?_ ?_
   | refine LeO.bind ?_ (fun _ => ?_)
  ·intro y0 y1 y2 y3
   unfold spec_InvM.l1
   repeat' first
   | (with_reducible exact ih0 _ _)
   | (with_reducible exact ih1 _ _ _ _)
   | (with_reducible exact ih2 _ _ _ _)
   | (with_reducible exact ih3 _ _ _ _ _)
   | (with_reducible exact ih4 _ _ _ _ _)
   | (with_reducible exact ih5 _ _ _ _ _ _)
   | (with_reducible exact ih6 _ _ _ _ _)
   | (with_reducible exact spec_InvG.mono _ _)
   | (with_reducible exact spec_MatrixOk.mono _ _)
   | (with_reducible exact spec_OneM.mono _ _)
   | (with_reducible exact spec_l06Row.mono _ _ _ _)
   | (with_reducible exact spec_l06Times.mono _ _ _)
   | (with_reducible exact LeO.refl _)
   | (with_reducible refine LeO.ite ?_ ?_)
   | (with_reducible refine LeO.bind ?_ (fun _ => ?_))
   | exact ih0 _ _
   | exact ih1 _ _ _ _
   | exact ih2 _ _ _ _
   | exact ih3 _ _ _ _ _
   | exact ih4 _ _ _ _ _
   | exact ih5 _ _ _ _ _ _
   | exact ih6 _ _ _ _ _
   | exact spec_InvG.mono _ _
   | exact spec_MatrixOk.mono _ _
   | exact spec_OneM.mono _ _
   | exact spec_l06Row.mono _ _ _ _
   | exact spec_l06Times.mono _ _ _
   | exact LeO.none _
   | refine LeO.ite ?_ ?_
   | refine LeO.bind ?_ (fun _ => ?_)
  ·intro y0 y1 y2 y3 y4
   unfold spec_InvM.j4
   repeat' first
   | (with_reducible exact ih0 _ _)
   | (with_reducible exact ih1 _ _ _ _)
   | (with_reducible exact ih2 _ _ _ _)
   | (with_reducible exact ih3 _ _ _ _ _)
   | (with_reducible exact ih4 _ _ _ _ _)
   | (with_reducible exact ih5 _ _ _ _ _ _)
   | (with_reducible exact ih6 _ _ _ _ _)
   | (with_reducible exact spec_InvG.mono _ _)
   | (with_reducible exact spec_MatrixOk.mono _ _)
   | (with_reducible exact spec_OneM.mono _ _)
   | (with_reducible exact spec_l06Row.mono _ _ _ _)
   | (with_reducible exact spec_l06Times.mono _ _ _)
   | (with_reducible exact LeO.refl _)
   | (with_reducible refine LeO.ite ?_ ?_)
   | (with_reducible refine LeO.bind ?_ (fun _ => ?_))
   | exact ih0 _ _
   | exact ih1 _ _ _ _
   | exact ih2 _ _ _ _
   | exact ih3 _ _ _ _ _
   | exact ih4 _ _ _ _ _
   | exact ih5 _ _ _ _ _ _
   | exact ih6 _ _ _ _ _
   | exact spec_InvG.mono _ _
   | exact spec_MatrixOk.mono _ _
   | exact spec_OneM.mono _ _
   | exact spec_l06Row.mono _ _ _ _
   | exact spec_l06Times.mono _ _ _
   | exact LeO.none _
   | refine LeO.ite ?_ ?_
   | refine LeO.bind ?_ (fun _ => ?_)
  ·intro y0 y1 y2 y3 y4
   unfold spec_InvM.l3
   repeat' first
   | (with_reducible exact ih0 _ _)
   | (with_reducible exact ih1 _ _ _ _)
   | (with_reducible exact ih2 _ _ _ _)
   | (with_reducible exact ih3 _ _ _ _ _)
   | (with_reducible exact ih4 _ _ _ _ _)
   | (with_reducible exact ih5 _ _ _ _ _ _)
   | (with_reducible exact ih6 _ _ _ _ _)
   | (with_reducible exact spec_InvG.mono _ _)
   | (with_reducible exact spec_MatrixOk.mono _ _)
   | (with_reducible exact spec_OneM.mono _ _)
   | (with_reducible exact spec_l06Row.mono _ _ _ _)
   | (with_reducible exact spec_l06Times.mono _ _ _)
   | (with_reducible exact LeO.refl _)
   | (with_reducible refine LeO.ite ?_ ?_)
   | (with_reducible refine LeO.bind ?_ (fun _ => ?_))
   | exact ih0 _ _
   | exact ih1 _ _ _ _
   | exact ih2 _ _ _ _
   | exact ih3 _ _ _ _ _
   | exact ih4 _ _ _ _ _
   | exact ih5 _ _ _ _ _ _
   | exact ih6 _ _ _ _ _
   | exact spec_InvG.mono _ _
   | exact spec_MatrixOk.mono _ _
   | exact spec_OneM.mono _ _
   | exact spec_l06Row.mono _ _ _ _
   | exact spec_l06Times.mono _ _ _
   | exact LeO.none _
   | refine LeO.ite ?_ ?_
   | refine LeO.bind ?_ (fun _ => ?_)
  ·intro y0 y1 y2 y3 y4 y5
   unfold spec_InvM.j6
   repeat' first
   | (with_reducible exact ih0 _ _)
   | (with_reducible exact ih1 _ _ _ _)
   | (with_reducible exact ih2 _ _ _ _)
   | (with_reducible exact ih3 _ _ _ _ _)
   | (with_reducible exact ih4 _ _ _ _ _)
   | (with_reducible exact ih5 _ _ _ _ _ _)
   | (with_reducible exact ih6 _ _ _ _ _)
   | (with_reducible exact spec_InvG.mono _ _)
   | (with_reducible exact spec_MatrixOk.mono _ _)
   | (with_reducible exact spec_OneM.mono _ _)
   | (with_reducible exact spec_l06Row.mono _ _ _ _)
   | (with_reducible exact spec_l06Times.mono _ _ _)
   | (with_reducible exact LeO.refl _)
   | (with_reducible refine LeO.ite ?_ ?_)
   | (with_reducible refine LeO.bind ?_ (fun _ => ?_))
   | exact ih0 _ _
   | exact ih1 _ _ _ _
   | exact ih2 _ _ _ _
   | exact ih3 _ _ _ _ _
   | exact ih4 _ _ _ _ _
   | exact ih5 _ _ _ _ _ _
   | exact ih6 _ _ _ _ _
   | exact spec_InvG.mono _ _
   | exact spec_MatrixOk.mono _ _
   | exact spec_OneM.mono _ _
   | exact spec_l06Row.mono _ _ _ _
   | exact spec_l06Times.mono _ _ _
   | exact LeO.none _
   | refine LeO.ite ?_ ?_
   | refine LeO.bind ?_ (fun _ => ?_)
  intro y0 y1 y2 y3 y4
  unfold spec_InvM.l2
  repeat' first
  | (with_reducible exact ih0 _ _)
  | (with_reducible exact ih1 _ _ _ _)
  | (with_reducible exact ih2 _ _ _ _)
  | (with_reducible exact ih3 _ _ _ _ _)
  | (with_reducible exact ih4 _ _ _ _ _)
  | (with_reducible exact ih5 _ _ _ _ _ _)
  | (with_reducible exact ih6 _ _ _ _ _)
  | (with_reducible exact spec_InvG.mono _ _)
  | (with_reducible exact spec_MatrixOk.mono _ _)
  | (with_reducible exact spec_OneM.mono _ _)
  | (with_reducible exact spec_l06Row.mono _ _ _ _)
  | (with_reducible exact spec_l06Times.mono _ _ _)
  | (with_reducible exact LeO.refl _)
  | (with_reducible refine LeO.ite ?_ ?_)
  | (with_reducible refine LeO.bind ?_ (fun _ => ?_))
  | exact ih0 _ _
  | exact ih1 _ _ _ _
  | exact ih2 _ _ _ _
  | exact ih3 _ _ _ _ _
  | exact ih4 _ _ _ _ _
  | exact ih5 _ _ _ _ _ _
  | exact ih6 _ _ _ _ _
  | exact spec_InvG.mono _ _
  | exact spec_MatrixOk.mono _ _
  | exact spec_OneM.mono _ _
  | exact spec_l06Row.mono _ _ _ _
  | exact spec_l06Times.mono _ _ _
  | exact LeO.none _
  | refine LeO.ite ?_ ?_
  | refine LeO.bind ?_ (fun _ => ?_)
theorem spec_InvM.mono : ∀ a0 k, LeO (spec_InvM.f k a0) (spec_InvM.f (k + 1) a0) := by
 intro a0 k
 obtain ⟨ih0, ih1, ih2, ih3, ih4, ih5, ih6⟩ := spec_InvM.mono_l k
 unfold spec_InvM.f
 repeat' first
   | (with_reducible exact ih0 _ _)
   | (with_reducible exact ih1 _ _ _ _)
   | (with_reducible exact ih2 _ _ _ _)
   | (with_reducible exact ih3 _ _ _ _ _)
   | (with_reducible exact ih4 _ _ _ _ _)
   | (with_reducible exact ih5 _ _ _ _ _ _)
   | (with_reducible exact ih6 _ _ _ _ _)
   | (with_reducible exact spec_InvG.mono _ _)
   | (with_reducible exact spec_MatrixOk.mono _ _)
   | (with_reducible exact spec_OneM.mono _ _)
   | (with_reducible exact spec_l06Row.mono _ _ _ _)
   | (with_reducible exact spec_l06Times.mono _ _ _)
   | (with_reducible exact LeO.refl _)
   | (with_reducible refine LeO.ite ?_ ?_)
   | (with_reducible refine LeO.bind ?_ (fun _ => ?_))
   | exact ih0 _ _
   | exact ih1 _ _ _ _
   | exact ih2 _ _ _ _
   | exact ih3 _ _ _ _ _
   | exact ih4 _ _ _ _ _
   | exact ih5 _ _ _ _ _ _
   | exact ih6 _ _ _ _ _
   | exact spec_InvG.mono _ _
   | exact spec_MatrixOk.mono _ _
   | exact spec_OneM.mono _ _
   | exact spec_l06Row.mono _ _ _ _
   | exact spec_l06Times.mono _ _ _
   | exact LeO.none _
   | refine LeO.ite ?_ ?_
   | refine LeO.bind ?_ (fun _ => ?_)
def spec_InvM.T32 : Bool × List (List Nat × List Nat) := (true, [([], []), ([], []), ([], []), ([], []), ([2, 3], [2, 3]), ([4], [4]), ([], []), ([], []), ([6, 7], [6, 7]), ([8], [8]), ([], []), ([5, 9, 10], [5, 9, 10]), ([0, 1, 0, 1, 2, 3, 4, 5, 6, 7, 8, 9, 10, 11], [0, 1]), ([12, 11, 11, 0, 1, 2, 3, 4, 5, 6, 7, 8, 9, 10, 11], [11, 12])])
def spec_InvM.B32 : List Nat := [0, 0, 0, 0, 12, 28, 0, 0, 192, 448, 0, 2044, 4095, 8191]
theorem spec_InvM.tab32 : rtab .any (opsOf Try.f39 32) = spec_InvM.T32 := by kernel_rfl
theorem spec_InvM.bits32 : waitsOk spec_InvM.T32.2 spec_InvM.B32 = true := by kernel_rfl
def spec_InvM.T33 : Bool × List (List Nat × List Nat) := (true, [([], []), ([], []), ([], []), ([], []), ([2, 3], [2, 3]), ([4], [4]), ([], []), ([], []), ([6, 7], [6, 7]), ([8], [8]), ([], []), ([5, 9, 10], [5, 9, 10]), ([0, 1, 0, 1, 2, 3, 4, 5, 6, 7, 8, 9, 10, 11], [0, 1]), ([12, 11, 11, 0, 1, 2, 3, 4, 5, 6, 7, 8, 9, 10, 11], [11, 12])])
def spec_InvM.B33 : List Nat := [0, 0, 0, 0, 12, 28, 0, 0, 192, 448, 0, 2044, 4095, 8191]
theorem spec_InvM.tab33 : rtab .any (opsOf Try.f39 33) = spec_InvM.T33 := by kernel_rfl
theorem spec_InvM.bits33 : waitsOk spec_InvM.T33.2 spec_InvM.B33 = true := by kernel_rfl
set_option maxHeartbeats 8000000 in
set_option maxRecDepth 100000 in
theorem spec_InvM.calls (k : Nat) (A0 : Option Addr) (c0 : Nat) (l0 : List (List Int)) (r1 : List (List Int)) (r2 : Bool) (w : World) (hr0 : Kd.C (Kd.slice 3 (Kd.int .i64)) w A0 l0.length l0) (hc0 : l0.length ≤ c0) (h : spec_InvM.f k l0 = some (r1, r2)) :
  Calls Try.prog 39 #[.slice A0 l0.length c0] w fun e w' => ∃ v0_ : Value, e = .returned (.tuple #[v0_, .bool r2]) ∧ Kd.N (Kd.slice 3 (Kd.int .i64)) 32 w' w.heap.size (fun k_ => (w.heap.size ≤ k_)) v0_ r1 ∧ Below w.heap.size w w' := by
 have HR0 := AM hr0
 have HC0 := AM hc0
 clear hr0 hc0
 have HB := AM (Below.refl w.heap.size w)
 have H : ((spec_MatrixOk.f k l0).bind fun t385 => (if t385 = true then (if 0 < (l0.length : Int) then (spec_InvM.j0 k l0 ((l0.length : Int) != ((rd_L2 l0 0).length : Int))) else (none)) else (spec_InvM.j0 k l0 true))) = some (r1, r2) := h
 clear h
 have HC2 := AM H
 clear H
 go_enter Try.func39, Try.ntmps39
 go_upto_region 1 with (fail)
 go_cut [26] (fun v26 wc => ∃ (kq : Nat) (x26_1 : Bool), v26 = .bool x26_1 ∧ Aside0 (spec_InvM.j0 kq l0 x26_1 = some (r1, r2)) ∧ Aside0 (kq ≤ k) ∧ Aside0 (Below w.heap.size w wc))
 case first =>
  have H := HC2.out
  clear HC2
  replace H := bm H
  obtain ⟨t385, A30, H⟩ := H
  replace H : (if t385 = true then (if 0 < (l0.length : Int) then (spec_InvM.j0 k l0 ((l0.length : Int) != ((rd_L2 l0 0).length : Int))) else (none)) else (spec_InvM.j0 k l0 true)) = some (r1, r2) := H
  have A3 := AM A30
  clear A30
  by_cases c4 : t385 = true
  ·subst c4
   have H1 : (if 0 < (l0.length : Int) then (spec_InvM.j0 k l0 ((l0.length : Int) != ((rd_L2 l0 0).length : Int))) else (none)) = some (r1, r2) := by rw [if_pos rfl] at H; exact H
   clear H
   have H := H1
   clear H1
   by_cases c5 : 0 < (l0.length : Int)
   ·rw [if_pos c5] at H
    have c5b0 : decide (0 < (l0.length : Int)) = true := decide_eq_true c5
    have c5b1 : decide (0 < l0.length) = true := decide_eq_true (by omega)
    clear c5
    (first | rw [c5b0] | (simp only [i64_w, i32_w]; rw [c5b0]) | rw [c5b1] | skip)
    have H' := AM H
    clear H
    go_wp2_with (first | ((with_reducible refine gate_callee (f := 51) rfl ?_); refine goesL_ (some 16) rfl rfl Try.func51 (by kernel_rfl) rfl #[.slice A0 l0.length c0] rfl (by (try simp only [List.map_toArray, List.map_cons, List.map_nil]); first | done | rfl) ?_; (with_reducible refine (spec_MatrixOk.calls k _ _ l0 true _ ?side1 ?side2 A3.out).mono ?_); (case side1 => repeat (first | exact (Kd.C_below HR0.out HB.out) | (with_reducible refine Kd.C_alloc ?_ _) | (with_reducible refine Kd.C_drewN ?_ _) | (with_reducible refine Kd.C_drew ?_))); (case side2 => exact HC0.out); rintro e w' ⟨rfl, ⟨nd, rfl⟩⟩; refine ⟨_, rfl, ?_⟩; have p386 : 0 ≤ (0 : Int) := (by omega); have q386 : 0 < (l0.length : Int) := od; obtain ⟨ad386, A386_0, c386_0, e386, hx386_0, hl386_0, hi386_0⟩ := at_L2 HR0.out 0 p386 q386; cases e386; have qi386 : (0 < l0.length) = True := eq_true (by omega); (try rw [show ((0 : Int)).toNat = 0 from rfl] at hx386_0); (try rw [Addr.add_zero'] at hx386_0); replace hx386_0 := (HB.out.cell (World.block_lt_of_cell? w _ hx386_0)).trans hx386_0; have HR386_0 := AM hi386_0; have HC386_0 := AM hl386_0; clear hi386_0 hl386_0; replace p386 := eq_true p386; replace q386 := eq_true q386))
    go_meet
    case rel => exact ⟨_, (((l0.length : Int) != ((rd_L2 l0 0).length : Int))), (by first | rfl | (simp; done) | (simp [*]; done)), H', ⟨by first | omega | exact Nat.le_refl _⟩, ⟨by repeat (first | exact HB.out | apply bA | apply bN | apply bD)⟩⟩
   rw [if_neg c5] at H
   exact absurd H (by simp)
  replace c4 := Bool.eq_false_iff.mpr c4
  subst c4
  have H1 : (spec_InvM.j0 k l0 true) = some (r1, r2) := by rw [if_neg (show ¬ (false = true) by decide)] at H; exact H
  clear H
  have H := H1
  clear H1
  have H' := AM H
  clear H
  go_wp2_with (first | ((with_reducible refine gate_callee (f := 51) rfl ?_); refine goesL_ (some 16) rfl rfl Try.func51 (by kernel_rfl) rfl #[.slice A0 l0.length c0] rfl (by (try simp only [List.map_toArray, List.map_cons, List.map_nil]); first | done | rfl) ?_; (with_reducible refine (spec_MatrixOk.calls k _ _ l0 false _ ?side1 ?side2 A3.out).mono ?_); (case side1 => repeat (first | exact (Kd.C_below HR0.out HB.out) | (with_reducible refine Kd.C_alloc ?_ _) | (with_reducible refine Kd.C_drewN ?_ _) | (with_reducible refine Kd.C_drew ?_))); (case side2 => exact HC0.out); rintro e w' ⟨rfl, ⟨nd, rfl⟩⟩; refine ⟨_, rfl, ?_⟩))
  go_meet
  case rel => exact ⟨_, (true), (by first | rfl | (simp; done) | (simp [*]; done)), H', ⟨by first | omega | exact Nat.le_refl _⟩, ⟨by repeat (first | exact HB.out | apply bA | apply bN | apply bD)⟩⟩
 case rest =>
  clear HC2
  obtain ⟨kq, x26_1, rfl, HA, HJ1, HB⟩ := hcut
  cases kq with
  | zero => exact absurd HA.out (by simp [spec_InvM.j0])
  | succ kj1 =>
   have H := HA.out
   clear HA
   simp only [spec_InvM.j0] at H
   by_cases c6 : x26_1 = true
   ·subst c6
    have H1 : (some ((([] : List (List Int))), false)) = some (r1, r2) := by rw [if_pos rfl] at H; exact H
    clear H
    have H := H1
    clear H1
    obtain ⟨y387, hy387⟩ : ∃ y_ : List (List Int), y_ = (([] : List (List Int))) := ⟨_, rfl⟩
    replace H : (some (y387, false)) = some (r1, r2) := by first | (rw [hy387]; with_reducible exact H) | (have H2_ := (Option.bind_some _ _).symm.trans H; rw [hy387]; with_reducible exact H2_) | (have H2_ := (Option.bind_some _ _).symm.trans H; with_reducible exact H2_) | with_reducible exact H | (rw [hy387]; exact H) | exact H
    have Ny387 := AM hy387
    clear hy387
    simp only [Option.some.injEq, Prod.mk.injEq] at H
    obtain ⟨rfl, rfl⟩ := H
    go_wp2_with (first | ((with_reducible refine gate_dst (N := 27) rfl ?_); (try (refine gate_guard (by rfl) ?_; dsimp only)); refine Kd.N_lit (Kd.slice 3 (Kd.int .i64)) _ 32 ?hg (N' := 27) ?hd (xs := ([] : List (List Int))) (inner := []) (ok := (fun k_ => (w.heap.size ≤ k_))) (okp := (fun k_ => (w.heap.size ≤ k_))) ?hr ?hp (fun _ hk => hk) ((show ∀ k_, wc.heap.size ≤ k_ → (fun k_ => (w.heap.size ≤ k_)) k_ from fun k_ hk => (Nat.le_trans (below_size (by repeat (first | exact HB.out | apply bA | apply bN | apply bD))) hk)) _ (Nat.le_refl _)) (Below.refl _ _) (Nat.le_refl _) (by simp) ?_; (case hd => rfl); (case hg => rfl); (case hr => first | (go_simp; done) | (go_simp; rfl)); (case hp => exact (Reps.none _ _)); intro v388 w7 ho8 hb hg_ hnew_; clear hg_ hnew_; (first | rw [← Ny387.out] at ho8 | (simp only [Int.reduceToNat] at ho8; rw [← Ny387.out] at ho8)); have n0_ := AM (Kd.N_lower ho8 (below_size (by repeat (first | exact HB.out | apply bA | apply bN | apply bD)))); have n1_ := AM (below_step (by repeat (first | exact HB.out | apply bA | apply bN | apply bD)) hb); clear HB; have HO389 := n0_; have HB := n1_; clear n0_ n1_; clear hb ho8))
    go_ret2
    exact ⟨_, by first | rfl | (simp [errW_none, errW_some] <;> rfl) | (simp [*, errW_none, errW_some] <;> rfl), by exact HO389.out, by repeat (first | exact HB.out | apply bA | apply bN | apply bD)⟩
   replace c6 := Bool.eq_false_iff.mpr c6
   subst c6
   have H1 : (spec_InvM.l0 kj1 l0 (l0.length : Int) (([] : List (List Int))) 0) = some (r1, r2) := by rw [if_neg (show ¬ (false = true) by decide)] at H; exact H
   clear H
   have H := H1
   clear H1
   obtain ⟨y390, hy390⟩ : ∃ y_ : List (List Int), y_ = (([] : List (List Int))) := ⟨_, rfl⟩
   replace H : (spec_InvM.l0 kj1 l0 (l0.length : Int) y390 0) = some (r1, r2) := by first | (rw [hy390]; with_reducible exact H) | (have H2_ := (Option.bind_some _ _).symm.trans H; rw [hy390]; with_reducible exact H2_) | (have H2_ := (Option.bind_some _ _).symm.trans H; with_reducible exact H2_) | with_reducible exact H | (rw [hy390]; exact H) | exact H
   have Ny390 := AM hy390
   clear hy390
   have H' := AM H
   clear H
   go_wp2_with (first | ((with_reducible refine gate_dst (N := 30) rfl ?_); (try (refine gate_guard (by rfl) ?_; dsimp only)); refine Kd.N_lit (Kd.slice 3 (Kd.int .i64)) _ 32 ?hg (N' := 30) ?hd (xs := ([] : List (List Int))) (inner := []) (ok := (fun k_ => (w.heap.size ≤ k_))) (okp := (fun k_ => (w.heap.size ≤ k_))) ?hr ?hp (fun _ hk => hk) ((show ∀ k_, wc.heap.size ≤ k_ → (fun k_ => (w.heap.size ≤ k_)) k_ from fun k_ hk => (Nat.le_trans (below_size (by repeat (first | exact HB.out | apply bA | apply bN | apply bD))) hk)) _ (Nat.le_refl _)) (Below.refl _ _) (Nat.le_refl _) (by simp) ?_; (case hd => rfl); (case hg => rfl); (case hr => first | (go_simp; done) | (go_simp; rfl)); (case hp => exact (Reps.none _ _)); intro v391 w9 ho10 hb hg_ hnew_; clear hg_ hnew_; (first | rw [← Ny390.out] at ho10 | (simp only [Int.reduceToNat] at ho10; rw [← Ny390.out] at ho10)); have n0_ := AM (Kd.N_lower ho10 (below_size (by repeat (first | exact HB.out | apply bA | apply bN | apply bD)))); have n1_ := AM (below_step (by repeat (first | exact HB.out | apply bA | apply bN | apply bD)) hb); clear HB; have HO392 := n0_; have HB := n1_; clear n0_ n1_; clear hb ho10))
   go_loopg [5, 6] kj1 (fun kq v5 v6 w' => ∃ (x5_2 : List (List Int)) (x6_2 : Int), v6 = .int .i64 x6_2 ∧ Aside0 (spec_InvM.l0 kq l0 (l0.length : Int) x5_2 x6_2 = some (r1, r2)) ∧ Aside0 (kq ≤ kj1) ∧ Aside0 (Kd.N (Kd.slice 3 (Kd.int .i64)) 32 w' w.heap.size (fun k_ => (w.heap.size ≤ k_)) v5 x5_2) ∧ Aside0 (Below w.heap.size w w'))
   case atStart => exact ⟨(y390), (0), (by first | rfl | (simp; done) | (simp [*]; done)), H', ⟨Nat.le_refl _⟩, ⟨by exact HO392.out⟩, ⟨by repeat (first | exact HB.out | apply bA | apply bN | apply bD)⟩⟩
   clear H'
   obtain ⟨x5_2, x6_2, rfl, HA, HK2, HO_5, HB⟩ := hrel
   cases gk with
   | zero => exact absurd HA.out (by simp [spec_InvM.l0])
   | succ k2 =>
    have H := HA.out
    clear HA
    simp only [spec_InvM.l0] at H
    by_cases c11 : x6_2 < (l0.length : Int)
    ·rw [if_pos c11] at H
     have c11b0 : decide (x6_2 < (l0.length : Int)) = true := decide_eq_true c11
     clear c11
     obtain ⟨y393, hy393⟩ : ∃ y_ : List Int, y_ = (([] : List Int)) := ⟨_, rfl⟩
     replace H : (if 0 ≤ x6_2 then (if x6_2 < (l0.length : Int) then (if y393.length + (rd_L2 l0 x6_2).length < 17592186044416 then (if x5_2.length < 5864062014805 then (spec_InvM.l0 k2 l0 (l0.length : Int) (x5_2 ++ [(y393 ++ (rd_L2 l0 x6_2))]) (wrap64 (x6_2 + 1))) else (none)) else (none)) else (none)) else (none)) = some (r1, r2) := by first | (rw [hy393]; with_reducible exact H) | (have H2_ := (Option.bind_some _ _).symm.trans H; rw [hy393]; with_reducible exact H2_) | (have H2_ := (Option.bind_some _ _).symm.trans H; with_reducible exact H2_) | with_reducible exact H | (rw [hy393]; exact H) | exact H
     have Ny393 := AM hy393
     clear hy393
     by_cases c12 : 0 ≤ x6_2
     ·rw [if_pos c12] at H
      have c12b0 : decide (0 ≤ x6_2) = true := decide_eq_true c12
      clear c12
      by_cases c13 : x6_2 < (l0.length : Int)
      ·rw [if_pos c13] at H
       have c13b0 : decide (x6_2 < (l0.length : Int)) = true := decide_eq_true c13
       clear c13
       by_cases c14 : y393.length + (rd_L2 l0 x6_2).length < 17592186044416
       ·rw [if_pos c14] at H
        have LMc14 := AM c14
        clear c14
        obtain ⟨y397, hy397⟩ : ∃ y_ : List Int, y_ = (y393 ++ (rd_L2 l0 x6_2)) := ⟨_, rfl⟩
        replace H : (if x5_2.length < 5864062014805 then (spec_InvM.l0 k2 l0 (l0.length : Int) (x5_2 ++ [y397]) (wrap64 (x6_2 + 1))) else (none)) = some (r1, r2) := by first | (rw [hy397]; with_reducible exact H) | (have H2_ := (Option.bind_some _ _).symm.trans H; rw [hy397]; with_reducible exact H2_) | (have H2_ := (Option.bind_some _ _).symm.trans H; with_reducible exact H2_) | with_reducible exact H | (rw [hy397]; exact H) | exact H
        have Ny397 := AM hy397
        clear hy397
        by_cases c15 : x5_2.length < 5864062014805
        ·rw [if_pos c15] at H
         have LMc15 := AM c15
         clear c15
         obtain ⟨y400, hy400⟩ : ∃ y_ : List (List Int), y_ = (x5_2 ++ [y397]) := ⟨_, rfl⟩
         replace H : (spec_InvM.l0 k2 l0 (l0.length : Int) y400 (wrap64 (x6_2 + 1))) = some (r1, r2) := by first | (rw [hy400]; with_reducible exact H) | (have H2_ := (Option.bind_some _ _).symm.trans H; rw [hy400]; with_reducible exact H2_) | (have H2_ := (Option.bind_some _ _).symm.trans H; with_reducible exact H2_) | with_reducible exact H | (rw [hy400]; exact H) | exact H
         have Ny400 := AM hy400
         clear hy400
         have H' := AM H
         clear H
         go_wp2_with (first | ((with_reducible refine gate_dst (N := 37) rfl ?_); (try (refine gate_guard (by rfl) ?_; dsimp only)); refine Kd.R_lit (Kd.int .i64) _ 3 ?hg (N := 37) ?hd (xs := ([] : List Int)) (inner := []) (ok := fun _ => True) (okp := fun _ => True) ?hr ?hp (fun _ hk => hk) trivial (Below.refl _ _) (Nat.le_refl _) (by simp) ?_; (case hd => rfl); (case hg => rfl); (case hr => first | (go_simp; done) | (go_simp; rfl)); (case hp => exact (Reps.none _ _)); intro v394 w16 ho17 hb hg_ hnew_; clear hg_ hnew_; (first | rw [← Ny393.out] at ho17 | (simp only [Int.reduceToNat] at ho17; rw [← Ny393.out] at ho17)); have n0_ := AM (Kd.N_elder' (by exact HO_5.out) (Kd.R_base ho17) hb); have n1_ := AM (Kd.R_lower (Kd.R_newM (M := fun k_ => (w.heap.size ≤ k_)) ho17 (below_size (by repeat (first | exact HB.out | apply bA | apply bN | apply bD))) (fun k_ h_ => h_)) (below_size (by repeat (first | exact HB.out | apply bA | apply bN | apply bD)))); have n2_ := AM (below_step (by repeat (first | exact HB.out | apply bA | apply bN | apply bD)) hb); clear HO_5; clear HB; have HO_5 := n0_; have HO395 := n1_; have HB := n2_; clear n0_ n1_ n2_; clear hb ho17; have p396 : 0 ≤ (x6_2 : Int) := od; have q396 : x6_2 < (l0.length : Int) := od; obtain ⟨ad396, A396_0, c396_0, e396, hx396_0, hl396_0, hi396_0⟩ := at_L2 HR0.out x6_2 p396 q396; cases e396; replace hx396_0 := (HB.out.cell (World.block_lt_of_cell? w _ hx396_0)).trans hx396_0; have HR396_0 := AM hi396_0; have HC396_0 := AM hl396_0; clear hi396_0 hl396_0; replace p396 := eq_true p396; replace q396 := eq_true q396) | ((with_reducible refine gate_builtin (b := .append) (xs := #[.tmp 37, .tmp 41]) rfl ?_); (try (refine gate_guard (by rfl) ?_; dsimp only)); at_builtin; refine Kd.R_append_rows (Kd.int .i64) (w0 := w) w.heap.size rfl (.tmp 37) (.tmp 41) 32 3 (.int .i64 0) 8 rfl Try.underlying32 info3 rfl (by decide) (by omega) v394 y393 (rd_L2 l0 x6_2) _ _ _ (fun k_ => (w.heap.size ≤ k_)) (fun _ => False) rfl rfl ?aO ?aR (fun _ _ h => h) (fun _ h => h.elim) ?aF ?aB ?aS ?aL ?_; (case aR => repeat (first | exact (Kd.C_below HR396_0.out HB.out) | (with_reducible refine Kd.C_alloc ?_ _) | (with_reducible refine Kd.C_drewN ?_ _) | (with_reducible refine Kd.C_drew ?_))); (case aB => exact (by repeat (first | exact HB.out | apply bA | apply bN | apply bD))); (case aF => exact (fun k_ hk => (Nat.le_trans (below_size (by repeat (first | exact HB.out | apply bA | apply bN | apply bD))) hk))); (case aO => exact (by exact Kd.R_mono HO395.out (fun _ hk => hk.1))); (case aS => exact (below_size (by repeat (first | exact HB.out | apply bA | apply bN | apply bD)))); (case aL => have := LMc14.out; omega); intro v398 w18 ho hb hg hat; rw [← Ny397.out] at ho; have n0_ := AM (Kd.N_afterv (ok := (fun k_ => (w.heap.size ≤ k_))) (by exact HO_5.out) hg hat); have n1_ := AM (hb); have n2_ := AM (ho); clear HO_5; clear HB; clear HO395; have HO_5 := n0_; have HB := n1_; have HO399 := n2_; clear n0_ n1_ n2_; clear ho hb hg hat; obtain ⟨Ao20, co20, eo20⟩ := Kd.R_slice HO399.out; subst eo20) | ((with_reducible refine gate_builtin (b := .append) (xs := #[.tmp 36, .tmp 43]) rfl ?_); (try (refine gate_guard (by rfl) ?_; dsimp only)); at_builtin; refine Kd.N_append (Kd.slice 3 (Kd.int .i64)) (w0 := w) w.heap.size rfl (.tmp 36) (.tmp 43) 49 32 (.slice none 0 0) 24 rfl Try.underlying49 info32 rfl (by decide) (by omega) u5 x5_2 y397 [.slice Ao20 y397.length co20] (fun k_ => (w.heap.size ≤ k_)) (fun k_ => ((fun k_ => (w.heap.size ≤ k_))) k_ ∧ some k_ ≠ (u5 : Value).ownBlock) rfl rfl ?aP (fun _ hk => hk) ?aF ?aO ?aB ?aS ?aL ?_; (case aP => exact (Kd.FK_slice_mk (Kd.R_reads' (Kd.R_mono (ok' := (fun k_ => ((fun k_ => (w.heap.size ≤ k_))) k_ ∧ some k_ ≠ (u5 : Value).ownBlock)) (Kd.R_apart' (HO399.out) (Kd.N_typed HO_5.out) (by decide)) (fun k_ hk => ⟨hk.1, hk.2⟩))).2.1 (Kd.R_F (Kd.R_mono (ok' := (fun k_ => ((fun k_ => (w.heap.size ≤ k_))) k_ ∧ some k_ ≠ (u5 : Value).ownBlock)) (Kd.R_apart' (HO399.out) (Kd.N_typed HO_5.out) (by decide)) (fun k_ hk => ⟨hk.1, hk.2⟩))))); (case aB => exact (by repeat (first | exact HB.out | apply bA | apply bN | apply bD))); (case aF => exact (fun k_ hk => (Nat.le_trans (below_size (by repeat (first | exact HB.out | apply bA | apply bN | apply bD))) hk))); (case aO => exact (by exact Kd.N_mono HO_5.out (fun _ hk => hk.1))); (case aS => exact (below_size (by repeat (first | exact HB.out | apply bA | apply bN | apply bD)))); (case aL => have := LMc15.out; omega); intro v401 w19 ho hb hg hat; rw [← Ny400.out] at ho; have n0_ := AM (hb); have n1_ := AM (ho); clear HB; clear HO_5; clear HO399; have HB := n0_; have HO402 := n1_; clear n0_ n1_; clear ho hb hg hat))
         go_roundg k2
         case measure => have := HJ1.out; have := HK2.out; omega
         case rel => exact ⟨(y400), (wrap64 (x6_2 + 1)), (by first | rfl | (simp; done) | (simp [*]; done)), H', ⟨by have := HJ1.out; have := HK2.out; omega⟩, ⟨by exact HO402.out⟩, ⟨by repeat (first | exact HB.out | apply bA | apply bN | apply bD)⟩⟩
        rw [if_neg c15] at H
        exact absurd H (by simp)
       rw [if_neg c14] at H
       exact absurd H (by simp)
      rw [if_neg c13] at H
      exact absurd H (by simp)
     rw [if_neg c12] at H
     exact absurd H (by simp)
    rw [if_neg c11] at H
    have c11b0 : decide (x6_2 < (l0.length : Int)) = false := decide_eq_false c11
    clear c11
    replace H := bm H
    obtain ⟨t403, A210, H⟩ := H
    replace H : (spec_InvM.l1 k2 (l0.length : Int) x5_2 t403 0) = some (r1, r2) := H
    have A21 := AM A210
    clear A210
    have H' := AM H
    clear H
    go_wp2_with (first | ((with_reducible refine gate_callee (f := 53) rfl ?_); refine goesL_ (some 46) rfl rfl Try.func53 (by kernel_rfl) rfl #[.int .i64 (l0.length : Int)] rfl (by (try simp only [List.map_toArray, List.map_cons, List.map_nil]); first | done | rfl) ?_; (with_reducible refine (spec_OneM.calls k2 (l0.length : Int) t403 _ A21.out).mono ?_); rintro e w22 ⟨v404, rfl, ho0, hb⟩; refine ⟨_, rfl, ?_⟩; have n0_ := AM (Kd.N_elder' (by exact HO_5.out) (Kd.S_base ho0) hb); have n1_ := AM (Kd.N_lower (Kd.N_mono (ok' := fun k_ => (w.heap.size ≤ k_) ∧ some k_ ≠ (u5 : Value).ownBlock) (Kd.S_N (Kd.S_bound ho0)) (fun k_ hk_ => ⟨(Nat.le_trans (below_size (by repeat (first | exact HB.out | apply bA | apply bN | apply bD))) hk_.2.1), (Kd.fresh' (Kd.N_lt (by exact HO_5.out)) k_ hk_.2.1)⟩)) (below_size (by repeat (first | exact HB.out | apply bA | apply bN | apply bD)))); have n2_ := AM (below_step (by repeat (first | exact HB.out | apply bA | apply bN | apply bD)) hb); clear HO_5; clear HB; have HO_5 := n0_; have HO405 := n1_; have HB := n2_; clear n0_ n1_ n2_; (try clear hb); (try clear ho0)))
    go_loopg [8] k2 (fun kq v8 w' => ∃ (x5_3 : List (List Int)) (x7_3 : List (List Int)) (x8_3 : Int), v8 = .int .i64 x8_3 ∧ Aside0 (spec_InvM.l1 kq (l0.length : Int) x5_3 x7_3 x8_3 = some (r1, r2)) ∧ Aside0 (kq ≤ k2) ∧ Aside0 (Kd.N (Kd.slice 3 (Kd.int .i64)) 32 w' w.heap.size (fun k_ => (w.heap.size ≤ k_) ∧ some k_ ≠ (v404 : Value).ownBlock) u5 x5_3) ∧ Aside0 (Kd.N (Kd.slice 3 (Kd.int .i64)) 32 w' w.heap.size (fun k_ => (w.heap.size ≤ k_) ∧ some k_ ≠ (u5 : Value).ownBlock) v404 x7_3) ∧ Aside0 (Below w.heap.size w w'))
    case atStart => exact ⟨(x5_2), (t403), (0), (by first | rfl | (simp; done) | (simp [*]; done)), H', ⟨Nat.le_refl _⟩, ⟨by exact HO_5.out⟩, ⟨by exact HO405.out⟩, ⟨by repeat (first | exact HB.out | apply bA | apply bN | apply bD)⟩⟩
    clear H'
    obtain ⟨x5_3, x7_3, x8_3, rfl, HA, HK3, HO_5, HO_7, HB⟩ := hrel
    cases gk with
    | zero => exact absurd HA.out (by simp [spec_InvM.l1])
    | succ k3 =>
     have H := HA.out
     clear HA
     simp only [spec_InvM.l1] at H
     by_cases c23 : x8_3 < (l0.length : Int)
     ·rw [if_pos c23] at H
      have c23b0 : decide (x8_3 < (l0.length : Int)) = true := decide_eq_true c23
      clear c23
      have HC24 := AM H
      clear H
      go_upto_block 4 with (fail)
      go_cut [9] (fun v9 wc => ∃ (kq : Nat) (x9_23 : Int), v9 = .int .i64 x9_23 ∧ Aside0 (spec_InvM.j4 kq (l0.length : Int) x5_3 x7_3 x8_3 x9_23 = some (r1, r2)) ∧ Aside0 (kq ≤ k3) ∧ Aside0 (Kd.N (Kd.slice 3 (Kd.int .i64)) 32 wc w.heap.size (fun k_ => (w.heap.size ≤ k_) ∧ some k_ ≠ (v404 : Value).ownBlock) u5 x5_3) ∧ Aside0 (Kd.N (Kd.slice 3 (Kd.int .i64)) 32 wc w.heap.size (fun k_ => (w.heap.size ≤ k_) ∧ some k_ ≠ (u5 : Value).ownBlock) v404 x7_3) ∧ Aside0 (Below w.heap.size w wc))
      case first =>
       have H := HC24.out
       clear HC24
       have H' := AM H
       clear H
       go_wp2
       go_loopg [9] k3 (fun kq v9 w' => ∃ (x9_4 : Int), v9 = .int .i64 x9_4 ∧ Aside0 (spec_InvM.l2 kq (l0.length : Int) x5_3 x7_3 x8_3 x9_4 = some (r1, r2)) ∧ Aside0 (kq ≤ k3) ∧ Aside0 (Kd.N (Kd.slice 3 (Kd.int .i64)) 32 w' w.heap.size (fun k_ => (w.heap.size ≤ k_) ∧ some k_ ≠ (v404 : Value).ownBlock) u5 x5_3) ∧ Aside0 (Kd.N (Kd.slice 3 (Kd.int .i64)) 32 w' w.heap.size (fun k_ => (w.heap.size ≤ k_) ∧ some k_ ≠ (u5 : Value).ownBlock) v404 x7_3) ∧ Aside0 (Below w.heap.size w w'))
       case atStart => exact ⟨(x8_3), (by first | rfl | (simp; done) | (simp [*]; done)), H', ⟨Nat.le_refl _⟩, ⟨by exact HO_5.out⟩, ⟨by exact HO_7.out⟩, ⟨by repeat (first | exact HB.out | apply bA | apply bN | apply bD)⟩⟩
       clear H'
       obtain ⟨x9_4, rfl, HA, HK4, HO_5, HO_7, HB⟩ := hrel
       cases gk with
       | zero => exact absurd HA.out (by simp [spec_InvM.l2])
       | succ k4 =>
        have H := HA.out
        clear HA
        simp only [spec_InvM.l2] at H
        by_cases c25 : x9_4 < (l0.length : Int)
        ·rw [if_pos c25] at H
         have c25b0 : decide (x9_4 < (l0.length : Int)) = true := decide_eq_true c25
         clear c25
         (first | rw [c25b0] | (simp only [i64_w, i32_w]; rw [c25b0]) | rw [c25b1] | skip)
         by_cases c26 : 0 ≤ x9_4
         ·rw [if_pos c26] at H
          have c26b0 : decide (0 ≤ x9_4) = true := decide_eq_true c26
          clear c26
          by_cases c27 : x9_4 < (x5_3.length : Int)
          ·rw [if_pos c27] at H
           have c27b0 : decide (x9_4 < (x5_3.length : Int)) = true := decide_eq_true c27
           clear c27
           by_cases c28 : 0 ≤ x8_3
           ·rw [if_pos c28] at H
            have c28b0 : decide (0 ≤ x8_3) = true := decide_eq_true c28
            clear c28
            by_cases c29 : x8_3 < ((rd_L2 x5_3 x9_4).length : Int)
            ·rw [if_pos c29] at H
             have c29b0 : decide (x8_3 < ((rd_L2 x5_3 x9_4).length : Int)) = true := decide_eq_true c29
             clear c29
             by_cases c30 : (rd (rd_L2 x5_3 x9_4) x8_3) = 0
             ·rw [if_pos c30] at H
              have c30b0 : ((rd (rd_L2 x5_3 x9_4) x8_3) == 0) = true := beq_iff_eq.mpr c30
              have c30b1 : ((rd (rd_L2 x5_3 x9_4) x8_3) != 0) = false := bne_eq_false_iff_eq.mpr c30
              clear c30
              have H' := AM H
              clear H
              obtain ⟨Ao31, co31, eo31⟩ := Kd.N_slice HO_5.out
              subst eo31
              have p406 : 0 ≤ (x9_4 : Int) := od
              have q406 : x9_4 < (x5_3.length : Int) := od
              obtain ⟨ad406, A406_0, c406_0, e406, hx406_0, hl406_0, hi406_0⟩ := at_L2 (Kd.N_reads' HO_5.out).2.2 x9_4 p406 q406
              cases e406
              obtain ⟨ce406, hce406, hMe406, hcc406⟩ := Kd.N_get HO_5.out [] x9_4 p406 (by first | exact q406 | exact od | (have e_ := (Kd.N_reads' HO_5.out).1; omega))
              obtain ⟨ua406_0, uc406_0, rfl, ul406_0, ge406_0⟩ := Kd.FK_slice_open hMe406
              have hv406_0 := hcc406 0 _ rfl
              rw [Nat.add_zero, show ((Kd.slice 3 (Kd.int .i64))).sz = 1 from rfl, Nat.mul_one] at hv406_0
              replace hv406_0 := Option.some.inj (hv406_0.symm.trans hx406_0)
              injection hv406_0 with hva_ hvn_ hvc_
              rw [hva_] at ge406_0
              rw [hvc_] at ul406_0
              have HL406_0 := AM (show Kd.V (Kd.int .i64) 3 _ w.heap.size _ _ (rd_L2 x5_3 x9_4) from Kd.V_mk ul406_0 ge406_0)
              clear hva_ hvn_ hvc_ ge406_0 ul406_0
              clear hcc406 hce406
              have HR406_0 := AM hi406_0
              have HC406_0 := AM hl406_0
              clear hi406_0 hl406_0
              replace p406 := eq_true p406
              replace q406 := eq_true q406
              have p407 : 0 ≤ (x8_3 : Int) := od
              have q407 : x8_3 < ((rd_L2 x5_3 x9_4).length : Int) := od
              obtain ⟨ad407, e407, hx407_0⟩ := Kd.at_int (by repeat (first | (with_reducible exact HR406_0.out) | (with_reducible refine Kd.C_alloc ?_ _) | (with_reducible refine Kd.C_drewN ?_ _) | (with_reducible refine Kd.C_drew ?_) | exact HR406_0.out)) x8_3 p407 q407
              cases e407
              replace p407 := eq_true p407
              replace q407 := eq_true q407
              go_wp2
              go_roundg k4
              case measure => have := HJ1.out; have := HK2.out; have := HK3.out; have := HK4.out; omega
              case rel => exact ⟨(wrap64 (x9_4 + 1)), (by first | rfl | (simp; done) | (simp [*]; done)), H', ⟨by have := HJ1.out; have := HK2.out; have := HK3.out; have := HK4.out; omega⟩, ⟨by exact HO_5.out⟩, ⟨by exact HO_7.out⟩, ⟨by repeat (first | exact HB.out | apply bA | apply bN | apply bD)⟩⟩
             rw [if_neg c30] at H
             have c30b0 : ((rd (rd_L2 x5_3 x9_4) x8_3) == 0) = false := beq_eq_false_iff_ne.mpr c30
             have c30b1 : ((rd (rd_L2 x5_3 x9_4) x8_3) != 0) = true := bne_iff_ne.mpr c30
             have H' := AM H
             clear H
             obtain ⟨Ao32, co32, eo32⟩ := Kd.N_slice HO_5.out
             subst eo32
             have p406 : 0 ≤ (x9_4 : Int) := od
             have q406 : x9_4 < (x5_3.length : Int) := od
             obtain ⟨ad406, A406_0, c406_0, e406, hx406_0, hl406_0, hi406_0⟩ := at_L2 (Kd.N_reads' HO_5.out).2.2 x9_4 p406 q406
             cases e406
             obtain ⟨ce406, hce406, hMe406, hcc406⟩ := Kd.N_get HO_5.out [] x9_4 p406 (by first | exact q406 | exact od | (have e_ := (Kd.N_reads' HO_5.out).1; omega))
             obtain ⟨ua406_0, uc406_0, rfl, ul406_0, ge406_0⟩ := Kd.FK_slice_open hMe406
             have hv406_0 := hcc406 0 _ rfl
             rw [Nat.add_zero, show ((Kd.slice 3 (Kd.int .i64))).sz = 1 from rfl, Nat.mul_one] at hv406_0
             replace hv406_0 := Option.some.inj (hv406_0.symm.trans hx406_0)
             injection hv406_0 with hva_ hvn_ hvc_
             rw [hva_] at ge406_0
             rw [hvc_] at ul406_0
             have HL406_0 := AM (show Kd.V (Kd.int .i64) 3 _ w.heap.size _ _ (rd_L2 x5_3 x9_4) from Kd.V_mk ul406_0 ge406_0)
             clear hva_ hvn_ hvc_ ge406_0 ul406_0
             clear hcc406 hce406
             have HR406_0 := AM hi406_0
             have HC406_0 := AM hl406_0
             clear hi406_0 hl406_0
             replace p406 := eq_true p406
             replace q406 := eq_true q406
             have p407 : 0 ≤ (x8_3 : Int) := od
             have q407 : x8_3 < ((rd_L2 x5_3 x9_4).length : Int) := od
             obtain ⟨ad407, e407, hx407_0⟩ := Kd.at_int (by repeat (first | (with_reducible exact HR406_0.out) | (with_reducible refine Kd.C_alloc ?_ _) | (with_reducible refine Kd.C_drewN ?_ _) | (with_reducible refine Kd.C_drew ?_) | exact HR406_0.out)) x8_3 p407 q407
             cases e407
             replace p407 := eq_true p407
             replace q407 := eq_true q407
             go_wp2
             go_meet
             case rel => exact ⟨_, (x9_4), (by first | rfl | (simp; done) | (simp [*]; done)), H', ⟨by have := HJ1.out; have := HK2.out; have := HK3.out; have := HK4.out; first | omega | exact Nat.le_refl _⟩, ⟨by exact HO_5.out⟩, ⟨by exact HO_7.out⟩, ⟨by repeat (first | exact HB.out | apply bA | apply bN | apply bD)⟩⟩
            rw [if_neg c29] at H
            exact absurd H (by simp)
           rw [if_neg c28] at H
           exact absurd H (by simp)
          rw [if_neg c27] at H
          exact absurd H (by simp)
         rw [if_neg c26] at H
         exact absurd H (by simp)
        rw [if_neg c25] at H
        have c25b0 : decide (x9_4 < (l0.length : Int)) = false := decide_eq_false c25
        clear c25
        (first | rw [c25b0] | (simp only [i64_w, i32_w]; rw [c25b0]) | rw [c25b1] | skip)
        have H' := AM H
        clear H
        go_wp2
        go_meet
        case rel => exact ⟨_, (x9_4), (by first | rfl | (simp; done) | (simp [*]; done)), H', ⟨by have := HJ1.out; have := HK2.out; have := HK3.out; have := HK4.out; first | omega | exact Nat.le_refl _⟩, ⟨by exact HO_5.out⟩, ⟨by exact HO_7.out⟩, ⟨by repeat (first | exact HB.out | apply bA | apply bN | apply bD)⟩⟩
      case rest =>
       clear HC24
       obtain ⟨kq, x9_23, rfl, HA, HJ23, HO_5, HO_7, HB⟩ := hcut
       cases kq with
       | zero => exact absurd HA.out (by simp [spec_InvM.j4])
       | succ kj23 =>
        have H := HA.out
        clear HA
        simp only [spec_InvM.j4] at H
        by_cases c33 : x9_23 = (l0.length : Int)
        ·rw [if_pos c33] at H
         have c33b0 : (x9_23 == (l0.length : Int)) = true := beq_iff_eq.mpr c33
         have c33b1 : (x9_23 != (l0.length : Int)) = false := bne_eq_false_iff_eq.mpr c33
         clear c33
         obtain ⟨y408, hy408⟩ : ∃ y_ : List (List Int), y_ = (([] : List (List Int))) := ⟨_, rfl⟩
         replace H : (some (y408, false)) = some (r1, r2) := by first | (rw [hy408]; with_reducible exact H) | (have H2_ := (Option.bind_some _ _).symm.trans H; rw [hy408]; with_reducible exact H2_) | (have H2_ := (Option.bind_some _ _).symm.trans H; with_reducible exact H2_) | with_reducible exact H | (rw [hy408]; exact H) | exact H
         have Ny408 := AM hy408
         clear hy408
         simp only [Option.some.injEq, Prod.mk.injEq] at H
         obtain ⟨rfl, rfl⟩ := H
         go_wp2_with (first | ((with_reducible refine gate_dst (N := 71) rfl ?_); (try (refine gate_guard (by rfl) ?_; dsimp only)); refine Kd.N_lit (Kd.slice 3 (Kd.int .i64)) _ 32 ?hg (N' := 71) ?hd (xs := ([] : List (List Int))) (inner := []) (ok := (fun k_ => (w.heap.size ≤ k_) ∧ some k_ ≠ (u5 : Value).ownBlock ∧ some k_ ≠ (v404 : Value).ownBlock)) (okp := (fun k_ => (w.heap.size ≤ k_) ∧ some k_ ≠ (u5 : Value).ownBlock ∧ some k_ ≠ (v404 : Value).ownBlock)) ?hr ?hp (fun _ hk => hk) ((show ∀ k_, wc.heap.size ≤ k_ → (fun k_ => (w.heap.size ≤ k_) ∧ some k_ ≠ (u5 : Value).ownBlock ∧ some k_ ≠ (v404 : Value).ownBlock) k_ from fun k_ hk => ⟨(Nat.le_trans (below_size (by repeat (first | exact HB.out | apply bA | apply bN | apply bD))) hk), Kd.fresh' (Kd.N_lt (by exact HO_5.out)) k_ hk, Kd.fresh' (Kd.N_lt (by exact HO_7.out)) k_ hk⟩) _ (Nat.le_refl _)) (Below.refl _ _) (Nat.le_refl _) (by simp) ?_; (case hd => rfl); (case hg => rfl); (case hr => first | (go_simp; done) | (go_simp; rfl)); (case hp => exact (Reps.none _ _)); intro v409 w34 ho35 hb hg_ hnew_; clear hg_ hnew_; (first | rw [← Ny408.out] at ho35 | (simp only [Int.reduceToNat] at ho35; rw [← Ny408.out] at ho35)); have n0_ := AM (Kd.N_elder' (by exact HO_5.out) (Kd.N_base ho35) hb); have n1_ := AM (Kd.N_elder' (by exact HO_7.out) (Kd.N_base ho35) hb); have n2_ := AM (Kd.N_lower ho35 (below_size (by repeat (first | exact HB.out | apply bA | apply bN | apply bD)))); have n3_ := AM (below_step (by repeat (first | exact HB.out | apply bA | apply bN | apply bD)) hb); clear HO_5; clear HO_7; clear HB; have HO_5 := n0_; have HO_7 := n1_; have HO410 := n2_; have HB := n3_; clear n0_ n1_ n2_ n3_; clear hb ho35))
         go_ret2
         exact ⟨_, by first | rfl | (simp [errW_none, errW_some] <;> rfl) | (simp [*, errW_none, errW_some] <;> rfl), by exact Kd.N_mono HO410.out (fun _ hk => hk.1), by repeat (first | exact HB.out | apply bA | apply bN | apply bD)⟩
        rw [if_neg c33] at H
        have c33b0 : (x9_23 == (l0.length : Int)) = false := beq_eq_false_iff_ne.mpr c33
        have c33b1 : (x9_23 != (l0.length : Int)) = true := bne_iff_ne.mpr c33
        by_cases c36 : 0 ≤ x9_23
        ·rw [if_pos c36] at H
         have c36b0 : decide (0 ≤ x9_23) = true := decide_eq_true c36
         clear c36
         by_cases c37 : x9_23 < (x5_3.length : Int)
         ·rw [if_pos c37] at H
          have c37b0 : decide (x9_23 < (x5_3.length : Int)) = true := decide_eq_true c37
          clear c37
          by_cases c38 : 0 ≤ x8_3
          ·rw [if_pos c38] at H
           have c38b0 : decide (0 ≤ x8_3) = true := decide_eq_true c38
           clear c38
           by_cases c39 : x8_3 < (x5_3.length : Int)
           ·rw [if_pos c39] at H
            have c39b0 : decide (x8_3 < (x5_3.length : Int)) = true := decide_eq_true c39
            clear c39
            obtain ⟨y413, hy413⟩ : ∃ y_ : List (List Int), y_ = (x5_3.set (x9_23 : Int).toNat (rd_L2 x5_3 x8_3)) := ⟨_, rfl⟩
            replace H : ((some (y413.set (x8_3 : Int).toNat (rd_L2 x5_3 x9_23) : List (List Int))).bind fun y414 => (if x9_23 < (x7_3.length : Int) then (if x8_3 < (x7_3.length : Int) then ((some ((x7_3.set (x9_23 : Int).toNat (rd_L2 x7_3 x8_3)).set (x8_3 : Int).toNat (rd_L2 x7_3 x9_23) : List (List Int))).bind fun y418 => (if x8_3 < ((rd_L2 y414 x8_3).length : Int) then ((spec_InvG.f kj23 (rd (rd_L2 y414 x8_3) x8_3)).bind fun t421 => ((spec_l06Times.f kj23 (rd_L2 y414 x8_3) t421).bind fun t423 => ((spec_l06Times.f kj23 (rd_L2 y418 x8_3) t421).bind fun t428 => (spec_InvM.l3 kj23 (l0.length : Int) (y414.set (x8_3 : Int).toNat t423) (y418.set (x8_3 : Int).toNat t428) x8_3 0)))) else (none))) else (none)) else (none))) = some (r1, r2) := by first | (rw [hy413]; with_reducible exact H) | (have H2_ := (Option.bind_some _ _).symm.trans H; rw [hy413]; with_reducible exact H2_) | (have H2_ := (Option.bind_some _ _).symm.trans H; with_reducible exact H2_) | with_reducible exact H | (rw [hy413]; exact H) | exact H
            have Ny413 := AM hy413
            clear hy413
            obtain ⟨y414, hy414⟩ : ∃ y_ : List (List Int), y_ = (y413.set (x8_3 : Int).toNat (rd_L2 x5_3 x9_23)) := ⟨_, rfl⟩
            replace H : (if x9_23 < (x7_3.length : Int) then (if x8_3 < (x7_3.length : Int) then ((some ((x7_3.set (x9_23 : Int).toNat (rd_L2 x7_3 x8_3)).set (x8_3 : Int).toNat (rd_L2 x7_3 x9_23) : List (List Int))).bind fun y418 => (if x8_3 < ((rd_L2 y414 x8_3).length : Int) then ((spec_InvG.f kj23 (rd (rd_L2 y414 x8_3) x8_3)).bind fun t421 => ((spec_l06Times.f kj23 (rd_L2 y414 x8_3) t421).bind fun t423 => ((spec_l06Times.f kj23 (rd_L2 y418 x8_3) t421).bind fun t428 => (spec_InvM.l3 kj23 (l0.length : Int) (y414.set (x8_3 : Int).toNat t423) (y418.set (x8_3 : Int).toNat t428) x8_3 0)))) else (none))) else (none)) else (none)) = some (r1, r2) := by first | (rw [hy414]; with_reducible exact H) | (have H2_ := (Option.bind_some _ _).symm.trans H; rw [hy414]; with_reducible exact H2_) | (have H2_ := (Option.bind_some _ _).symm.trans H; with_reducible exact H2_) | with_reducible exact H | (rw [hy414]; exact H) | exact H
            have Ny414 := AM hy414
            clear hy414
            by_cases c42 : x9_23 < (x7_3.length : Int)
            ·rw [if_pos c42] at H
             have c42b0 : decide (x9_23 < (x7_3.length : Int)) = true := decide_eq_true c42
             clear c42
             by_cases c43 : x8_3 < (x7_3.length : Int)
             ·rw [if_pos c43] at H
              have c43b0 : decide (x8_3 < (x7_3.length : Int)) = true := decide_eq_true c43
              clear c43
              obtain ⟨y417, hy417⟩ : ∃ y_ : List (List Int), y_ = (x7_3.set (x9_23 : Int).toNat (rd_L2 x7_3 x8_3)) := ⟨_, rfl⟩
              replace H : ((some (y417.set (x8_3 : Int).toNat (rd_L2 x7_3 x9_23) : List (List Int))).bind fun y418 => (if x8_3 < ((rd_L2 y414 x8_3).length : Int) then ((spec_InvG.f kj23 (rd (rd_L2 y414 x8_3) x8_3)).bind fun t421 => ((spec_l06Times.f kj23 (rd_L2 y414 x8_3) t421).bind fun t423 => ((spec_l06Times.f kj23 (rd_L2 y418 x8_3) t421).bind fun t428 => (spec_InvM.l3 kj23 (l0.length : Int) (y414.set (x8_3 : Int).toNat t423) (y418.set (x8_3 : Int).toNat t428) x8_3 0)))) else (none))) = some (r1, r2) := by first | (rw [hy417]; with_reducible exact H) | (have H2_ := (Option.bind_some _ _).symm.trans H; rw [hy417]; with_reducible exact H2_) | (have H2_ := (Option.bind_some _ _).symm.trans H; with_reducible exact H2_) | with_reducible exact H | (rw [hy417]; exact H) | exact H
              have Ny417 := AM hy417
              clear hy417
              obtain ⟨y418, hy418⟩ : ∃ y_ : List (List Int), y_ = (y417.set (x8_3 : Int).toNat (rd_L2 x7_3 x9_23)) := ⟨_, rfl⟩
              replace H : (if x8_3 < ((rd_L2 y414 x8_3).length : Int) then ((spec_InvG.f kj23 (rd (rd_L2 y414 x8_3) x8_3)).bind fun t421 => ((spec_l06Times.f kj23 (rd_L2 y414 x8_3) t421).bind fun t423 => ((spec_l06Times.f kj23 (rd_L2 y418 x8_3) t421).bind fun t428 => (spec_InvM.l3 kj23 (l0.length : Int) (y414.set (x8_3 : Int).toNat t423) (y418.set (x8_3 : Int).toNat t428) x8_3 0)))) else (none)) = some (r1, r2) := by first | (rw [hy418]; with_reducible exact H) | (have H2_ := (Option.bind_some _ _).symm.trans H; rw [hy418]; with_reducible exact H2_) | (have H2_ := (Option.bind_some _ _).symm.trans H; with_reducible exact H2_) | with_reducible exact H | (rw [hy418]; exact H) | exact H
              have Ny418 := AM hy418
              clear hy418
              by_cases c46 : x8_3 < ((rd_L2 y414 x8_3).length : Int)
              ·rw [if_pos c46] at H
               have c46b0 : decide (x8_3 < ((rd_L2 y414 x8_3).length : Int)) = true := decide_eq_true c46
               clear c46
               replace H := bm H
               obtain ⟨t421, A470, H⟩ := H
               replace H : ((spec_l06Times.f kj23 (rd_L2 y414 x8_3) t421).bind fun t423 => ((spec_l06Times.f kj23 (rd_L2 y418 x8_3) t421).bind fun t428 => (spec_InvM.l3 kj23 (l0.length : Int) (y414.set (x8_3 : Int).toNat t423) (y418.set (x8_3 : Int).toNat t428) x8_3 0))) = some (r1, r2) := H
               have A47 := AM A470
               clear A470
               replace H := bm H
               obtain ⟨t423, A480, H⟩ := H
               replace H : ((spec_l06Times.f kj23 (rd_L2 y418 x8_3) t421).bind fun t428 => (spec_InvM.l3 kj23 (l0.length : Int) (y414.set (x8_3 : Int).toNat t423) (y418.set (x8_3 : Int).toNat t428) x8_3 0)) = some (r1, r2) := H
               have A48 := AM A480
               clear A480
               obtain ⟨y426, hy426⟩ : ∃ y_ : List (List Int), y_ = (y414.set (x8_3 : Int).toNat t423) := ⟨_, rfl⟩
               replace H : ((spec_l06Times.f kj23 (rd_L2 y418 x8_3) t421).bind fun t428 => (spec_InvM.l3 kj23 (l0.length : Int) y426 (y418.set (x8_3 : Int).toNat t428) x8_3 0)) = some (r1, r2) := by first | (rw [hy426]; with_reducible exact H) | (have H2_ := (Option.bind_some _ _).symm.trans H; rw [hy426]; with_reducible exact H2_) | (have H2_ := (Option.bind_some _ _).symm.trans H; with_reducible exact H2_) | with_reducible exact H | (rw [hy426]; exact H) | exact H
               have Ny426 := AM hy426
               clear hy426
               replace H := bm H
               obtain ⟨t428, A500, H⟩ := H
               replace H : (spec_InvM.l3 kj23 (l0.length : Int) y426 (y418.set (x8_3 : Int).toNat t428) x8_3 0) = some (r1, r2) := H
               have A50 := AM A500
               clear A500
               obtain ⟨y431, hy431⟩ : ∃ y_ : List (List Int), y_ = (y418.set (x8_3 : Int).toNat t428) := ⟨_, rfl⟩
               replace H : (spec_InvM.l3 kj23 (l0.length : Int) y426 y431 x8_3 0) = some (r1, r2) := by first | (rw [hy431]; with_reducible exact H) | (have H2_ := (Option.bind_some _ _).symm.trans H; rw [hy431]; with_reducible exact H2_) | (have H2_ := (Option.bind_some _ _).symm.trans H; with_reducible exact H2_) | with_reducible exact H | (rw [hy431]; exact H) | exact H
               have Ny431 := AM hy431
               clear hy431
               have H' := AM H
               clear H
               obtain ⟨Ao52, co52, eo52⟩ := Kd.N_slice HO_5.out
               subst eo52
               have p411 : 0 ≤ (x9_23 : Int) := od
               have q411 : x9_23 < (x5_3.length : Int) := od
               obtain ⟨ad411, A411_0, c411_0, e411, hx411_0, hl411_0, hi411_0⟩ := at_L2 (Kd.N_reads' HO_5.out).2.2 x9_23 p411 q411
               cases e411
               obtain ⟨ce411, hce411, hMe411, hcc411⟩ := Kd.N_get HO_5.out [] x9_23 p411 (by first | exact q411 | exact od | (have e_ := (Kd.N_reads' HO_5.out).1; omega))
               obtain ⟨ua411_0, uc411_0, rfl, ul411_0, ge411_0⟩ := Kd.FK_slice_open hMe411
               have hv411_0 := hcc411 0 _ rfl
               rw [Nat.add_zero, show ((Kd.slice 3 (Kd.int .i64))).sz = 1 from rfl, Nat.mul_one] at hv411_0
               replace hv411_0 := Option.some.inj (hv411_0.symm.trans hx411_0)
               injection hv411_0 with hva_ hvn_ hvc_
               rw [hva_] at ge411_0
               rw [hvc_] at ul411_0
               have HL411_0 := AM (show Kd.V (Kd.int .i64) 3 _ w.heap.size _ _ (rd_L2 x5_3 x9_23) from Kd.V_mk ul411_0 ge411_0)
               clear hva_ hvn_ hvc_ ge411_0 ul411_0
               clear hcc411 hce411
               have HR411_0 := AM hi411_0
               have HC411_0 := AM hl411_0
               clear hi411_0 hl411_0
               replace p411 := eq_true p411
               replace q411 := eq_true q411
               have p412 : 0 ≤ (x8_3 : Int) := od
               have q412 : x8_3 < (x5_3.length : Int) := od
               obtain ⟨ad412, A412_0, c412_0, e412, hx412_0, hl412_0, hi412_0⟩ := at_L2 (Kd.N_reads' HO_5.out).2.2 x8_3 p412 q412
               obtain rfl : ad411 = ad412 := (by injection e412)
               obtain ⟨ce412, hce412, hMe412, hcc412⟩ := Kd.N_get HO_5.out [] x8_3 p412 (by first | exact q412 | exact od | (have e_ := (Kd.N_reads' HO_5.out).1; omega))
               obtain ⟨ua412_0, uc412_0, rfl, ul412_0, ge412_0⟩ := Kd.FK_slice_open hMe412
               have hv412_0 := hcc412 0 _ rfl
               rw [Nat.add_zero, show ((Kd.slice 3 (Kd.int .i64))).sz = 1 from rfl, Nat.mul_one] at hv412_0
               replace hv412_0 := Option.some.inj (hv412_0.symm.trans hx412_0)
               injection hv412_0 with hva_ hvn_ hvc_
               rw [hva_] at ge412_0
               rw [hvc_] at ul412_0
               have HL412_0 := AM (show Kd.V (Kd.int .i64) 3 _ w.heap.size _ _ (rd_L2 x5_3 x8_3) from Kd.V_mk ul412_0 ge412_0)
               clear hva_ hvn_ hvc_ ge412_0 ul412_0
               clear hcc412 hce412
               have HR412_0 := AM hi412_0
               have HC412_0 := AM hl412_0
               clear hi412_0 hl412_0
               replace p412 := eq_true p412
               replace q412 := eq_true q412
               have p40 : 0 ≤ (x9_23 : Int) := od
               have q40 : (x9_23 : Int) < ((x5_3.length : Int) : Int) := od
               obtain ⟨go40, co40, eo40, gb40, gl40, cl40, HG40⟩ := Kd.N_form HO_5.out (by omega)
               (first | cases eo40 | (injection eo40 with ea_ en_ ec_; (first | subst ea_ | (injection ea_ with ea_; subst ea_)); subst ec_; clear en_))
               have GB40 := AM gb40
               have GG40 := AM HG40
               clear gb40 gl40 HG40
               (first | simp only [add_plain] at hx411_0 | skip)
               (first | simp only [add_plain] at hx412_0 | skip)
               obtain ⟨ce40, hcl40, hM40, hcc40, hfr40⟩ := Kd.N_elem HO_5.out [] (x9_23 : Int) p40 q40
               obtain ⟨ua40_0, uc40_0, rfl, ul40_0, ge40_0⟩ := Kd.FK_slice_open hM40
               have hx40_0 := hcc40 0 _ rfl
               have hf40_0 := hfr40 0
               (try simp only [show ((Kd.slice 3 (Kd.int .i64))).sz = 1 from rfl, Nat.mul_one, Nat.add_zero] at hx40_0)
               (try simp only [show ((Kd.slice 3 (Kd.int .i64))).sz = 1 from rfl, Nat.mul_one, Nat.add_zero] at hf40_0)
               (try clear hM40); clear hcl40 hcc40 hfr40
               replace p40 := eq_true p40
               replace q40 := eq_true q40
               have HX53 := AM (show Kd.N (Kd.slice 3 (Kd.int .i64)) 32 wc w.heap.size (fun k_ => (w.heap.size ≤ k_) ∧ some k_ ≠ (v404 : Value).ownBlock) (.slice (some ⟨go40, 0, none⟩) x5_3.length co52) x5_3 from (by exact HO_5.out))
               obtain ⟨ce53, hcl53, hM53, hcc53, hfr53⟩ := Kd.N_elem HX53.out [] (x9_23 : Int) (od) (by have h_ : (x9_23 : Int) < ((x5_3.length : Int) : Int) := od; first | exact h_ | (have e_ := (Kd.N_reads' HO_5.out).1; omega) | simpa using h_)
               obtain ⟨ua53_0, uc53_0, rfl, ul53_0, ge53_0⟩ := Kd.FK_slice_open hM53
               have HP53 := Kd.N_seg HX53.out (x9_23 : Int) (od) (by have h_ : (x9_23 : Int) < ((x5_3.length : Int) : Int) := od; first | exact h_ | (have e_ := (Kd.N_reads' HO_5.out).1; omega) | simpa using h_) (seg := [.slice A412_0 (rd_L2 x5_3 x8_3).length c412_0]) (j := 0) hcl53 hcc53 (show 1 ≤ 1 from by decide) (x' := rd_L2 x5_3 x8_3) (Kd.FK_slice_mk (Kd.V_reads' (Kd.V_mono (ok' := (fun k_ => ((fun k_ => (w.heap.size ≤ k_) ∧ some k_ ≠ (v404 : Value).ownBlock)) k_ ∧ k_ ≠ go40)) (HL412_0.out) (fun k_ hk => ⟨⟨hk.1.1, hk.1.2⟩, fun e_ => (hk.2) (by rw [e_]; rfl)⟩))).2.1 (Kd.V_F (Kd.V_mono (ok' := (fun k_ => ((fun k_ => (w.heap.size ≤ k_) ∧ some k_ ≠ (v404 : Value).ownBlock)) k_ ∧ k_ ≠ go40)) (HL412_0.out) (fun k_ hk => ⟨⟨hk.1.1, hk.1.2⟩, fun e_ => (hk.2) (by rw [e_]; rfl)⟩)))) (fun _ hk => hk)
               have hx53_0 := hcc53 0 _ rfl
               (try simp only [show ((Kd.slice 3 (Kd.int .i64))).sz = 1 from rfl, Nat.mul_one, Nat.add_zero] at hx53_0)
               have hf53_0 := hfr53 0
               (try simp only [show ((Kd.slice 3 (Kd.int .i64))).sz = 1 from rfl, Nat.mul_one, Nat.add_zero] at hf53_0)
               (try clear hM53); clear hcl53 hcc53 hfr53
               (try simp only [show ((Kd.slice 3 (Kd.int .i64))).sz = 1 from rfl, Nat.mul_one, Nat.add_zero] at HP53)
               (try simp only [show ((Kd.slice 3 (Kd.int .i64))).sz = 1 from rfl, Nat.mul_one, Nat.add_zero] at HP53)
               go_wp2_with (first | ((with_reducible refine gate_store (t := 32) (p := 82) rfl ?_); refine store_event (t := 32) (p := 82) (v := ?vo_w54) (w1 := (wc.setCell ⟨go40, (x9_23 : Int).toNat, none⟩ (.slice A412_0 (rd_L2 x5_3 x8_3).length c412_0))) ?hg ?ho ?hn ?hr ?_; (case ho => rfl); (case hg => rfl); (case hn => rfl); (case hr => first | (go_simp; done) | (go_simp; rfl)); intro w54 hw; have hg : wc.grownBy w54 (some go40) := (by rw [hw]; exact HP53.2); have hp_ : Kd.N (Kd.slice 3 (Kd.int .i64)) 32 w54 w.heap.size (fun k_ => (w.heap.size ≤ k_) ∧ some k_ ≠ (v404 : Value).ownBlock) (.slice (some ⟨go40, 0, none⟩) x5_3.length co52) y413 := (by rw [hw, Ny413.out]; exact HP53.1); clear HP53; have n0_ := AM (hp_); have n1_ := AM (Kd.N_afterv (v := (.slice (some ⟨go40, 0, none⟩) x5_3.length co52)) (v1 := (.slice (some ⟨go40, 0, none⟩) x5_3.length co52)) (ok := (fun k_ => (w.heap.size ≤ k_))) (by exact HO_7.out) hg (.inl rfl)); have n2_ := AM (Kd.V_afterv (v := (.slice (some ⟨go40, 0, none⟩) x5_3.length co52)) (v1 := (.slice (some ⟨go40, 0, none⟩) x5_3.length co52)) (ok := (fun k_ => (w.heap.size ≤ k_) ∧ some k_ ≠ (v404 : Value).ownBlock)) (by exact HL411_0.out) hg (.inl rfl)); have n3_ := AM (Kd.V_afterv (v := (.slice (some ⟨go40, 0, none⟩) x5_3.length co52)) (v1 := (.slice (some ⟨go40, 0, none⟩) x5_3.length co52)) (ok := (fun k_ => (w.heap.size ≤ k_) ∧ some k_ ≠ (v404 : Value).ownBlock)) (by exact HL412_0.out) hg (.inl rfl)); have n4_ := AM ((by rw [hw]; exact below_set (HB.out) GB40.out : Below w.heap.size w w54)); clear HO_5; clear HO_7; clear HL411_0; clear HL412_0; clear HB; have HO_5 := n0_; have HO_7 := n1_; have HL411_0 := n2_; have HL412_0 := n3_; have HB := n4_; clear n0_ n1_ n2_ n3_ n4_; clear hg hw hp_; have p41 : 0 ≤ (x8_3 : Int) := od; have q41 : (x8_3 : Int) < ((x5_3.length : Int) : Int) := od; obtain ⟨ce41, hcl41, hM41, hcc41, hfr41⟩ := Kd.N_elem HO_5.out [] (x8_3 : Int) p41 q41; obtain ⟨ua41_0, uc41_0, rfl, ul41_0, ge41_0⟩ := Kd.FK_slice_open hM41; have hx41_0 := hcc41 0 _ rfl; have hf41_0 := hfr41 0; (try simp only [show ((Kd.slice 3 (Kd.int .i64))).sz = 1 from rfl, Nat.mul_one, Nat.add_zero] at hx41_0); (try simp only [show ((Kd.slice 3 (Kd.int .i64))).sz = 1 from rfl, Nat.mul_one, Nat.add_zero] at hf41_0); (try clear hM41); clear hcl41 hcc41 hfr41; replace p41 := eq_true p41; replace q41 := eq_true q41; have HX55 := AM (show Kd.N (Kd.slice 3 (Kd.int .i64)) 32 w54 w.heap.size (fun k_ => (w.heap.size ≤ k_) ∧ some k_ ≠ (v404 : Value).ownBlock) (.slice (some ⟨go40, 0, none⟩) x5_3.length co52) y413 from (by exact HO_5.out)); obtain ⟨ce55, hcl55, hM55, hcc55, hfr55⟩ := Kd.N_elem HX55.out [] (x8_3 : Int) (od) (by have h_ : (x8_3 : Int) < ((x5_3.length : Int) : Int) := od; first | exact h_ | (have e_ := (Kd.N_reads' HO_5.out).1; omega) | simpa using h_); obtain ⟨ua55_0, uc55_0, rfl, ul55_0, ge55_0⟩ := Kd.FK_slice_open hM55; have HP55 := Kd.N_seg HX55.out (x8_3 : Int) (od) (by have h_ : (x8_3 : Int) < ((x5_3.length : Int) : Int) := od; first | exact h_ | (have e_ := (Kd.N_reads' HO_5.out).1; omega) | simpa using h_) (seg := [.slice A411_0 (rd_L2 x5_3 x9_23).length c411_0]) (j := 0) hcl55 hcc55 (show 1 ≤ 1 from by decide) (x' := rd_L2 x5_3 x9_23) (Kd.FK_slice_mk (Kd.V_reads' (Kd.V_mono (ok' := (fun k_ => ((fun k_ => (w.heap.size ≤ k_) ∧ some k_ ≠ (v404 : Value).ownBlock)) k_ ∧ k_ ≠ go40)) (HL411_0.out) (fun k_ hk => ⟨⟨hk.1.1, hk.1.2⟩, fun e_ => (hk.2) (by rw [e_]; rfl)⟩))).2.1 (Kd.V_F (Kd.V_mono (ok' := (fun k_ => ((fun k_ => (w.heap.size ≤ k_) ∧ some k_ ≠ (v404 : Value).ownBlock)) k_ ∧ k_ ≠ go40)) (HL411_0.out) (fun k_ hk => ⟨⟨hk.1.1, hk.1.2⟩, fun e_ => (hk.2) (by rw [e_]; rfl)⟩)))) (fun _ hk => hk); have hx55_0 := hcc55 0 _ rfl; (try simp only [show ((Kd.slice 3 (Kd.int .i64))).sz = 1 from rfl, Nat.mul_one, Nat.add_zero] at hx55_0); have hf55_0 := hfr55 0; (try simp only [show ((Kd.slice 3 (Kd.int .i64))).sz = 1 from rfl, Nat.mul_one, Nat.add_zero] at hf55_0); (try clear hM55); clear hcl55 hcc55 hfr55; (try simp only [show ((Kd.slice 3 (Kd.int .i64))).sz = 1 from rfl, Nat.mul_one, Nat.add_zero] at HP55); (try simp only [show ((Kd.slice 3 (Kd.int .i64))).sz = 1 from rfl, Nat.mul_one, Nat.add_zero] at HP55)) | ((with_reducible refine gate_store (t := 32) (p := 86) rfl ?_); refine store_event (t := 32) (p := 86) (v := ?vo_w56) (w1 := (w54.setCell ⟨go40, (x8_3 : Int).toNat, none⟩ (.slice A411_0 (rd_L2 x5_3 x9_23).length c411_0))) ?hg ?ho ?hn ?hr ?_; (case ho => rfl); (case hg => rfl); (case hn => rfl); (case hr => first | (go_simp; done) | (go_simp; rfl)); intro w56 hw; have hg : w54.grownBy w56 (some go40) := (by rw [hw]; exact HP55.2); have hp_ : Kd.N (Kd.slice 3 (Kd.int .i64)) 32 w56 w.heap.size (fun k_ => (w.heap.size ≤ k_) ∧ some k_ ≠ (v404 : Value).ownBlock) (.slice (some ⟨go40, 0, none⟩) x5_3.length co52) y414 := (by rw [hw, Ny414.out]; exact HP55.1); clear HP55; have n0_ := AM (hp_); have n1_ := AM (Kd.N_afterv (v := (.slice (some ⟨go40, 0, none⟩) x5_3.length co52)) (v1 := (.slice (some ⟨go40, 0, none⟩) x5_3.length co52)) (ok := (fun k_ => (w.heap.size ≤ k_))) (by exact HO_7.out) hg (.inl rfl)); have n2_ := AM (Kd.V_afterv (v := (.slice (some ⟨go40, 0, none⟩) x5_3.length co52)) (v1 := (.slice (some ⟨go40, 0, none⟩) x5_3.length co52)) (ok := (fun k_ => (w.heap.size ≤ k_) ∧ some k_ ≠ (v404 : Value).ownBlock)) (by exact HL411_0.out) hg (.inl rfl)); have n3_ := AM (Kd.V_afterv (v := (.slice (some ⟨go40, 0, none⟩) x5_3.length co52)) (v1 := (.slice (some ⟨go40, 0, none⟩) x5_3.length co52)) (ok := (fun k_ => (w.heap.size ≤ k_) ∧ some k_ ≠ (v404 : Value).ownBlock)) (by exact HL412_0.out) hg (.inl rfl)); have n4_ := AM ((by rw [hw]; exact below_set (HB.out) GB40.out : Below w.heap.size w w56)); clear HO_5; clear HO_7; clear HL411_0; clear HL412_0; clear HB; have HO_5 := n0_; have HO_7 := n1_; have HL411_0 := n2_; have HL412_0 := n3_; have HB := n4_; clear n0_ n1_ n2_ n3_ n4_; clear hg hw hp_; obtain ⟨Ao57, co57, eo57⟩ := Kd.N_slice HO_7.out; subst eo57; have p415 : 0 ≤ (x9_23 : Int) := od; have q415 : x9_23 < (x7_3.length : Int) := od; obtain ⟨ad415, A415_0, c415_0, e415, hx415_0, hl415_0, hi415_0⟩ := at_L2 (Kd.N_reads' HO_7.out).2.2 x9_23 p415 q415; cases e415; obtain ⟨ce415, hce415, hMe415, hcc415⟩ := Kd.N_get HO_7.out [] x9_23 p415 (by first | exact q415 | exact od | (have e_ := (Kd.N_reads' HO_7.out).1; omega)); obtain ⟨ua415_0, uc415_0, rfl, ul415_0, ge415_0⟩ := Kd.FK_slice_open hMe415; have hv415_0 := hcc415 0 _ rfl; rw [Nat.add_zero, show ((Kd.slice 3 (Kd.int .i64))).sz = 1 from rfl, Nat.mul_one] at hv415_0; replace hv415_0 := Option.some.inj (hv415_0.symm.trans hx415_0); injection hv415_0 with hva_ hvn_ hvc_; rw [hva_] at ge415_0; rw [hvc_] at ul415_0; have HL415_0 := AM (show Kd.V (Kd.int .i64) 3 _ w.heap.size _ _ (rd_L2 x7_3 x9_23) from Kd.V_mk ul415_0 ge415_0); clear hva_ hvn_ hvc_ ge415_0 ul415_0; clear hcc415 hce415; have HR415_0 := AM hi415_0; have HC415_0 := AM hl415_0; clear hi415_0 hl415_0; replace p415 := eq_true p415; replace q415 := eq_true q415; have p416 : 0 ≤ (x8_3 : Int) := od; have q416 : x8_3 < (x7_3.length : Int) := od; obtain ⟨ad416, A416_0, c416_0, e416, hx416_0, hl416_0, hi416_0⟩ := at_L2 (Kd.N_reads' HO_7.out).2.2 x8_3 p416 q416; obtain rfl : ad415 = ad416 := (by injection e416); obtain ⟨ce416, hce416, hMe416, hcc416⟩ := Kd.N_get HO_7.out [] x8_3 p416 (by first | exact q416 | exact od | (have e_ := (Kd.N_reads' HO_7.out).1; omega)); obtain ⟨ua416_0, uc416_0, rfl, ul416_0, ge416_0⟩ := Kd.FK_slice_open hMe416; have hv416_0 := hcc416 0 _ rfl; rw [Nat.add_zero, show ((Kd.slice 3 (Kd.int .i64))).sz = 1 from rfl, Nat.mul_one] at hv416_0; replace hv416_0 := Option.some.inj (hv416_0.symm.trans hx416_0); injection hv416_0 with hva_ hvn_ hvc_; rw [hva_] at ge416_0; rw [hvc_] at ul416_0; have HL416_0 := AM (show Kd.V (Kd.int .i64) 3 _ w.heap.size _ _ (rd_L2 x7_3 x8_3) from Kd.V_mk ul416_0 ge416_0); clear hva_ hvn_ hvc_ ge416_0 ul416_0; clear hcc416 hce416; have HR416_0 := AM hi416_0; have HC416_0 := AM hl416_0; clear hi416_0 hl416_0; replace p416 := eq_true p416; replace q416 := eq_true q416; have p44 : 0 ≤ (x9_23 : Int) := od; have q44 : (x9_23 : Int) < ((x7_3.length : Int) : Int) := od; obtain ⟨go44, co44, eo44, gb44, gl44, cl44, HG44⟩ := Kd.N_form HO_7.out (by omega); (first | cases eo44 | (injection eo44 with ea_ en_ ec_; (first | subst ea_ | (injection ea_ with ea_; subst ea_)); subst ec_; clear en_)); have GB44 := AM gb44; have GG44 := AM HG44; clear gb44 gl44 HG44; (first | simp only [add_plain] at hx415_0 | skip); (first | simp only [add_plain] at hx416_0 | skip); obtain ⟨ce44, hcl44, hM44, hcc44, hfr44⟩ := Kd.N_elem HO_7.out [] (x9_23 : Int) p44 q44; obtain ⟨ua44_0, uc44_0, rfl, ul44_0, ge44_0⟩ := Kd.FK_slice_open hM44; have hx44_0 := hcc44 0 _ rfl; have hf44_0 := hfr44 0; (try simp only [show ((Kd.slice 3 (Kd.int .i64))).sz = 1 from rfl, Nat.mul_one, Nat.add_zero] at hx44_0); (try simp only [show ((Kd.slice 3 (Kd.int .i64))).sz = 1 from rfl, Nat.mul_one, Nat.add_zero] at hf44_0); (try clear hM44); clear hcl44 hcc44 hfr44; replace p44 := eq_true p44; replace q44 := eq_true q44; have HX58 := AM (show Kd.N (Kd.slice 3 (Kd.int .i64)) 32 w56 w.heap.size (fun k_ => (w.heap.size ≤ k_) ∧ some k_ ≠ (.slice (some ⟨go40, 0, none⟩) x5_3.length co52 : Value).ownBlock) (.slice (some ⟨go44, 0, none⟩) x7_3.length co57) x7_3 from (by exact HO_7.out)); obtain ⟨ce58, hcl58, hM58, hcc58, hfr58⟩ := Kd.N_elem HX58.out [] (x9_23 : Int) (od) (by have h_ : (x9_23 : Int) < ((x7_3.length : Int) : Int) := od; first | exact h_ | (have e_ := (Kd.N_reads' HO_7.out).1; omega) | simpa using h_); obtain ⟨ua58_0, uc58_0, rfl, ul58_0, ge58_0⟩ := Kd.FK_slice_open hM58; have HP58 := Kd.N_seg HX58.out (x9_23 : Int) (od) (by have h_ : (x9_23 : Int) < ((x7_3.length : Int) : Int) := od; first | exact h_ | (have e_ := (Kd.N_reads' HO_7.out).1; omega) | simpa using h_) (seg := [.slice A416_0 (rd_L2 x7_3 x8_3).length c416_0]) (j := 0) hcl58 hcc58 (show 1 ≤ 1 from by decide) (x' := rd_L2 x7_3 x8_3) (Kd.FK_slice_mk (Kd.V_reads' (Kd.V_mono (ok' := (fun k_ => ((fun k_ => (w.heap.size ≤ k_) ∧ some k_ ≠ (.slice (some ⟨go40, 0, none⟩) x5_3.length co52 : Value).ownBlock)) k_ ∧ k_ ≠ go44)) (HL416_0.out) (fun k_ hk => ⟨⟨hk.1.1, hk.1.2⟩, fun e_ => (hk.2) (by rw [e_]; rfl)⟩))).2.1 (Kd.V_F (Kd.V_mono (ok' := (fun k_ => ((fun k_ => (w.heap.size ≤ k_) ∧ some k_ ≠ (.slice (some ⟨go40, 0, none⟩) x5_3.length co52 : Value).ownBlock)) k_ ∧ k_ ≠ go44)) (HL416_0.out) (fun k_ hk => ⟨⟨hk.1.1, hk.1.2⟩, fun e_ => (hk.2) (by rw [e_]; rfl)⟩)))) (fun _ hk => hk); have hx58_0 := hcc58 0 _ rfl; (try simp only [show ((Kd.slice 3 (Kd.int .i64))).sz = 1 from rfl, Nat.mul_one, Nat.add_zero] at hx58_0); have hf58_0 := hfr58 0; (try simp only [show ((Kd.slice 3 (Kd.int .i64))).sz = 1 from rfl, Nat.mul_one, Nat.add_zero] at hf58_0); (try clear hM58); clear hcl58 hcc58 hfr58; (try simp only [show ((Kd.slice 3 (Kd.int .i64))).sz = 1 from rfl, Nat.mul_one, Nat.add_zero] at HP58); (try simp only [show ((Kd.slice 3 (Kd.int .i64))).sz = 1 from rfl, Nat.mul_one, Nat.add_zero] at HP58)) | ((with_reducible refine gate_store (t := 32) (p := 97) rfl ?_); refine store_event (t := 32) (p := 97) (v := ?vo_w59) (w1 := (w56.setCell ⟨go44, (x9_23 : Int).toNat, none⟩ (.slice A416_0 (rd_L2 x7_3 x8_3).length c416_0))) ?hg ?ho ?hn ?hr ?_; (case ho => rfl); (case hg => rfl); (case hn => rfl); (case hr => first | (go_simp; done) | (go_simp; rfl)); intro w59 hw; have hg : w56.grownBy w59 (some go44) := (by rw [hw]; exact HP58.2); have hp_ : Kd.N (Kd.slice 3 (Kd.int .i64)) 32 w59 w.heap.size (fun k_ => (w.heap.size ≤ k_) ∧ some k_ ≠ (.slice (some ⟨go40, 0, none⟩) x5_3.length co52 : Value).ownBlock) (.slice (some ⟨go44, 0, none⟩) x7_3.length co57) y417 := (by rw [hw, Ny417.out]; exact HP58.1); clear HP58; have n0_ := AM (Kd.N_afterv (v := (.slice (some ⟨go44, 0, none⟩) x7_3.length co57)) (v1 := (.slice (some ⟨go44, 0, none⟩) x7_3.length co57)) (ok := (fun k_ => (w.heap.size ≤ k_))) (by exact HO_5.out) hg (.inl rfl)); have n1_ := AM (hp_); have n2_ := AM (Kd.V_afterv (v := (.slice (some ⟨go44, 0, none⟩) x7_3.length co57)) (v1 := (.slice (some ⟨go44, 0, none⟩) x7_3.length co57)) (ok := (fun k_ => (w.heap.size ≤ k_) ∧ some k_ ≠ (.slice (some ⟨go40, 0, none⟩) x5_3.length co52 : Value).ownBlock)) (by exact Kd.V_mono HL411_0.out (fun _ hk => by first | exact ⟨⟨hk.1.1, hk.2⟩, hk.1.2⟩ | (repeat' (first | exact hk.1 | exact hk.2 | exact hk.1.1 | exact hk.1.2 | exact hk.2.1 | exact hk.2.2 | exact hk.1.1.1 | exact hk.1.1.2 | exact hk.1.2.1 | exact hk.1.2.2 | exact hk.2.1.1 | exact hk.2.1.2 | exact hk.2.2.1 | exact hk.2.2.2 | exact hk.1.1.1.1 | exact hk.1.1.1.2 | exact hk.1.1.2.1 | exact hk.1.1.2.2 | exact hk.1.2.1.1 | exact hk.1.2.1.2 | exact hk.1.2.2.1 | exact hk.1.2.2.2 | exact hk.2.1.1.1 | exact hk.2.1.1.2 | exact hk.2.1.2.1 | exact hk.2.1.2.2 | exact hk.2.2.1.1 | exact hk.2.2.1.2 | exact hk.2.2.2.1 | exact hk.2.2.2.2 | constructor)))) hg (.inl rfl)); have n3_ := AM (Kd.V_afterv (v := (.slice (some ⟨go44, 0, none⟩) x7_3.length co57)) (v1 := (.slice (some ⟨go44, 0, none⟩) x7_3.length co57)) (ok := (fun k_ => (w.heap.size ≤ k_) ∧ some k_ ≠ (.slice (some ⟨go40, 0, none⟩) x5_3.length co52 : Value).ownBlock)) (by exact Kd.V_mono HL412_0.out (fun _ hk => by first | exact ⟨⟨hk.1.1, hk.2⟩, hk.1.2⟩ | (repeat' (first | exact hk.1 | exact hk.2 | exact hk.1.1 | exact hk.1.2 | exact hk.2.1 | exact hk.2.2 | exact hk.1.1.1 | exact hk.1.1.2 | exact hk.1.2.1 | exact hk.1.2.2 | exact hk.2.1.1 | exact hk.2.1.2 | exact hk.2.2.1 | exact hk.2.2.2 | exact hk.1.1.1.1 | exact hk.1.1.1.2 | exact hk.1.1.2.1 | exact hk.1.1.2.2 | exact hk.1.2.1.1 | exact hk.1.2.1.2 | exact hk.1.2.2.1 | exact hk.1.2.2.2 | exact hk.2.1.1.1 | exact hk.2.1.1.2 | exact hk.2.1.2.1 | exact hk.2.1.2.2 | exact hk.2.2.1.1 | exact hk.2.2.1.2 | exact hk.2.2.2.1 | exact hk.2.2.2.2 | constructor)))) hg (.inl rfl)); have n4_ := AM (Kd.V_afterv (v := (.slice (some ⟨go44, 0, none⟩) x7_3.length co57)) (v1 := (.slice (some ⟨go44, 0, none⟩) x7_3.length co57)) (ok := (fun k_ => (w.heap.size ≤ k_) ∧ some k_ ≠ (.slice (some ⟨go40, 0, none⟩) x5_3.length co52 : Value).ownBlock)) (by exact HL415_0.out) hg (.inl rfl)); have n5_ := AM (Kd.V_afterv (v := (.slice (some ⟨go44, 0, none⟩) x7_3.length co57)) (v1 := (.slice (some ⟨go44, 0, none⟩) x7_3.length co57)) (ok := (fun k_ => (w.heap.size ≤ k_) ∧ some k_ ≠ (.slice (some ⟨go40, 0, none⟩) x5_3.length co52 : Value).ownBlock)) (by exact HL416_0.out) hg (.inl rfl)); have n6_ := AM ((by rw [hw]; exact below_set (HB.out) GB44.out : Below w.heap.size w w59)); clear HO_5; clear HO_7; clear HL411_0; clear HL412_0; clear HL415_0; clear HL416_0; clear HB; have HO_5 := n0_; have HO_7 := n1_; have HL411_0 := n2_; have HL412_0 := n3_; have HL415_0 := n4_; have HL416_0 := n5_; have HB := n6_; clear n0_ n1_ n2_ n3_ n4_ n5_ n6_; clear hg hw hp_; have p45 : 0 ≤ (x8_3 : Int) := od; have q45 : (x8_3 : Int) < ((x7_3.length : Int) : Int) := od; obtain ⟨ce45, hcl45, hM45, hcc45, hfr45⟩ := Kd.N_elem HO_7.out [] (x8_3 : Int) p45 q45; obtain ⟨ua45_0, uc45_0, rfl, ul45_0, ge45_0⟩ := Kd.FK_slice_open hM45; have hx45_0 := hcc45 0 _ rfl; have hf45_0 := hfr45 0; (try simp only [show ((Kd.slice 3 (Kd.int .i64))).sz = 1 from rfl, Nat.mul_one, Nat.add_zero] at hx45_0); (try simp only [show ((Kd.slice 3 (Kd.int .i64))).sz = 1 from rfl, Nat.mul_one, Nat.add_zero] at hf45_0); (try clear hM45); clear hcl45 hcc45 hfr45; replace p45 := eq_true p45; replace q45 := eq_true q45; have HX60 := AM (show Kd.N (Kd.slice 3 (Kd.int .i64)) 32 w59 w.heap.size (fun k_ => (w.heap.size ≤ k_) ∧ some k_ ≠ (.slice (some ⟨go40, 0, none⟩) x5_3.length co52 : Value).ownBlock) (.slice (some ⟨go44, 0, none⟩) x7_3.length co57) y417 from (by exact HO_7.out)); obtain ⟨ce60, hcl60, hM60, hcc60, hfr60⟩ := Kd.N_elem HX60.out [] (x8_3 : Int) (od) (by have h_ : (x8_3 : Int) < ((x7_3.length : Int) : Int) := od; first | exact h_ | (have e_ := (Kd.N_reads' HO_7.out).1; omega) | simpa using h_); obtain ⟨ua60_0, uc60_0, rfl, ul60_0, ge60_0⟩ := Kd.FK_slice_open hM60; have HP60 := Kd.N_seg HX60.out (x8_3 : Int) (od) (by have h_ : (x8_3 : Int) < ((x7_3.length : Int) : Int) := od; first | exact h_ | (have e_ := (Kd.N_reads' HO_7.out).1; omega) | simpa using h_) (seg := [.slice A415_0 (rd_L2 x7_3 x9_23).length c415_0]) (j := 0) hcl60 hcc60 (show 1 ≤ 1 from by decide) (x' := rd_L2 x7_3 x9_23) (Kd.FK_slice_mk (Kd.V_reads' (Kd.V_mono (ok' := (fun k_ => ((fun k_ => (w.heap.size ≤ k_) ∧ some k_ ≠ (.slice (some ⟨go40, 0, none⟩) x5_3.length co52 : Value).ownBlock)) k_ ∧ k_ ≠ go44)) (HL415_0.out) (fun k_ hk => ⟨⟨hk.1.1, hk.1.2⟩, fun e_ => (hk.2) (by rw [e_]; rfl)⟩))).2.1 (Kd.V_F (Kd.V_mono (ok' := (fun k_ => ((fun k_ => (w.heap.size ≤ k_) ∧ some k_ ≠ (.slice (some ⟨go40, 0, none⟩) x5_3.length co52 : Value).ownBlock)) k_ ∧ k_ ≠ go44)) (HL415_0.out) (fun k_ hk => ⟨⟨hk.1.1, hk.1.2⟩, fun e_ => (hk.2) (by rw [e_]; rfl)⟩)))) (fun _ hk => hk); have hx60_0 := hcc60 0 _ rfl; (try simp only [show ((Kd.slice 3 (Kd.int .i64))).sz = 1 from rfl, Nat.mul_one, Nat.add_zero] at hx60_0); have hf60_0 := hfr60 0; (try simp only [show ((Kd.slice 3 (Kd.int .i64))).sz = 1 from rfl, Nat.mul_one, Nat.add_zero] at hf60_0); (try clear hM60); clear hcl60 hcc60 hfr60; (try simp only [show ((Kd.slice 3 (Kd.int .i64))).sz = 1 from rfl, Nat.mul_one, Nat.add_zero] at HP60); (try simp only [show ((Kd.slice 3 (Kd.int .i64))).sz = 1 from rfl, Nat.mul_one, Nat.add_zero] at HP60)) | ((with_reducible refine gate_store (t := 32) (p := 101) rfl ?_); refine store_event (t := 32) (p := 101) (v := ?vo_w61) (w1 := (w59.setCell ⟨go44, (x8_3 : Int).toNat, none⟩ (.slice A415_0 (rd_L2 x7_3 x9_23).length c415_0))) ?hg ?ho ?hn ?hr ?_; (case ho => rfl); (case hg => rfl); (case hn => rfl); (case hr => first | (go_simp; done) | (go_simp; rfl)); intro w61 hw; have hg : w59.grownBy w61 (some go44) := (by rw [hw]; exact HP60.2); have hp_ : Kd.N (Kd.slice 3 (Kd.int .i64)) 32 w61 w.heap.size (fun k_ => (w.heap.size ≤ k_) ∧ some k_ ≠ (.slice (some ⟨go40, 0, none⟩) x5_3.length co52 : Value).ownBlock) (.slice (some ⟨go44, 0, none⟩) x7_3.length co57) y418 := (by rw [hw, Ny418.out]; exact HP60.1); clear HP60; have n0_ := AM (Kd.N_afterv (v := (.slice (some ⟨go44, 0, none⟩) x7_3.length co57)) (v1 := (.slice (some ⟨go44, 0, none⟩) x7_3.length co57)) (ok := (fun k_ => (w.heap.size ≤ k_))) (by exact HO_5.out) hg (.inl rfl)); have n1_ := AM (hp_); have n2_ := AM (Kd.V_afterv (v := (.slice (some ⟨go44, 0, none⟩) x7_3.length co57)) (v1 := (.slice (some ⟨go44, 0, none⟩) x7_3.length co57)) (ok := (fun k_ => (w.heap.size ≤ k_) ∧ some k_ ≠ (.slice (some ⟨go40, 0, none⟩) x5_3.length co52 : Value).ownBlock)) (by exact HL411_0.out) hg (.inl rfl)); have n3_ := AM (Kd.V_afterv (v := (.slice (some ⟨go44, 0, none⟩) x7_3.length co57)) (v1 := (.slice (some ⟨go44, 0, none⟩) x7_3.length co57)) (ok := (fun k_ => (w.heap.size ≤ k_) ∧ some k_ ≠ (.slice (some ⟨go40, 0, none⟩) x5_3.length co52 : Value).ownBlock)) (by exact HL412_0.out) hg (.inl rfl)); have n4_ := AM (Kd.V_afterv (v := (.slice (some ⟨go44, 0, none⟩) x7_3.length co57)) (v1 := (.slice (some ⟨go44, 0, none⟩) x7_3.length co57)) (ok := (fun k_ => (w.heap.size ≤ k_) ∧ some k_ ≠ (.slice (some ⟨go40, 0, none⟩) x5_3.length co52 : Value).ownBlock)) (by exact HL415_0.out) hg (.inl rfl)); have n5_ := AM (Kd.V_afterv (v := (.slice (some ⟨go44, 0, none⟩) x7_3.length co57)) (v1 := (.slice (some ⟨go44, 0, none⟩) x7_3.length co57)) (ok := (fun k_ => (w.heap.size ≤ k_) ∧ some k_ ≠ (.slice (some ⟨go40, 0, none⟩) x5_3.length co52 : Value).ownBlock)) (by exact HL416_0.out) hg (.inl rfl)); have n6_ := AM ((by rw [hw]; exact below_set (HB.out) GB44.out : Below w.heap.size w w61)); clear HO_5; clear HO_7; clear HL411_0; clear HL412_0; clear HL415_0; clear HL416_0; clear HB; have HO_5 := n0_; have HO_7 := n1_; have HL411_0 := n2_; have HL412_0 := n3_; have HL415_0 := n4_; have HL416_0 := n5_; have HB := n6_; clear n0_ n1_ n2_ n3_ n4_ n5_ n6_; clear hg hw hp_; have p419 : 0 ≤ (x8_3 : Int) := od; have q419 : x8_3 < (y414.length : Int) := (by have h_ : (x8_3 : Int) < ((x5_3.length : Int) : Int) := od; first | (have e_ := (Kd.N_reads' HO_5.out).1; omega) | simpa only [Ny413.out, Ny414.out, List.length_set] using h_); have ql419 : ((x8_3 : Int) < ((x5_3.length : Int) : Int)) = True := eq_true (od); obtain ⟨ad419, A419_0, c419_0, e419, hx419_0, hl419_0, hi419_0⟩ := at_L2 (Kd.N_reads' HO_5.out).2.2 x8_3 p419 q419; obtain rfl : (⟨go40, 0, none⟩ : Addr) = ad419 := (by injection e419); obtain ⟨ce419, hce419, hMe419, hcc419⟩ := Kd.N_get HO_5.out [] x8_3 p419 (by first | exact q419 | exact od | (have e_ := (Kd.N_reads' HO_5.out).1; omega)); obtain ⟨ua419_0, uc419_0, rfl, ul419_0, ge419_0⟩ := Kd.FK_slice_open hMe419; have hv419_0 := hcc419 0 _ rfl; rw [Nat.add_zero, show ((Kd.slice 3 (Kd.int .i64))).sz = 1 from rfl, Nat.mul_one] at hv419_0; replace hv419_0 := Option.some.inj (hv419_0.symm.trans hx419_0); injection hv419_0 with hva_ hvn_ hvc_; rw [hva_] at ge419_0; rw [hvc_] at ul419_0; have HL419_0 := AM (show Kd.V (Kd.int .i64) 3 _ w.heap.size _ _ (rd_L2 y414 x8_3) from Kd.V_mk ul419_0 ge419_0); clear hva_ hvn_ hvc_ ge419_0 ul419_0; clear hcc419 hce419; (first | simp only [add_plain] at hx419_0 | simp only [add_at] at hx419_0 | simp only [Addr.add, Nat.zero_add] at hx419_0 | skip); have HR419_0 := AM hi419_0; have HC419_0 := AM hl419_0; clear hi419_0 hl419_0; replace p419 := eq_true p419; replace q419 := eq_true q419; have p420 : 0 ≤ (x8_3 : Int) := od; have q420 : x8_3 < ((rd_L2 y414 x8_3).length : Int) := od; obtain ⟨ad420, e420, hx420_0⟩ := Kd.at_int (by repeat (first | (with_reducible exact HR419_0.out) | (with_reducible refine Kd.C_alloc ?_ _) | (with_reducible refine Kd.C_drewN ?_ _) | (with_reducible refine Kd.C_drew ?_) | exact HR419_0.out)) x8_3 p420 q420; cases e420; replace p420 := eq_true p420; replace q420 := eq_true q420) | ((with_reducible refine gate_callee (f := 54) rfl ?_); refine goesL_ (some 109) rfl rfl Try.func54 (by kernel_rfl) rfl #[.int .i64 (rd (rd_L2 y414 x8_3) x8_3)] rfl (by (try simp only [List.map_toArray, List.map_cons, List.map_nil]); first | done | rfl) ?_; (with_reducible refine (spec_InvG.calls kj23 (rd (rd_L2 y414 x8_3) x8_3) t421 _ A47.out).mono ?_); rintro e w' ⟨rfl, ⟨nd, rfl⟩⟩; refine ⟨_, rfl, ?_⟩; (try (rw [drewN_self w61]; generalize hq_ : World.drewN w61 _ = w61; have n0_ : Aside0 (Kd.V (Kd.int .i64) 3 w61 w.heap.size (fun k_ => (w.heap.size ≤ k_) ∧ some k_ ≠ (.slice (some ⟨go40, 0, none⟩) x5_3.length co52 : Value).ownBlock ∧ some k_ ≠ (.slice (some ⟨go44, 0, none⟩) x7_3.length co57 : Value).ownBlock) (.slice A411_0 (rd_L2 x5_3 x9_23).length c411_0) (rd_L2 x5_3 x9_23)) := ⟨by rw [← hq_]; exact (by exact Kd.V_mono HL411_0.out (fun _ hk => by first | exact ⟨hk.1.1, ⟨hk.1.2, hk.2⟩⟩ | (repeat' (first | exact hk.1 | exact hk.2 | exact hk.1.1 | exact hk.1.2 | exact hk.2.1 | exact hk.2.2 | exact hk.1.1.1 | exact hk.1.1.2 | exact hk.1.2.1 | exact hk.1.2.2 | exact hk.2.1.1 | exact hk.2.1.2 | exact hk.2.2.1 | exact hk.2.2.2 | exact hk.1.1.1.1 | exact hk.1.1.1.2 | exact hk.1.1.2.1 | exact hk.1.1.2.2 | exact hk.1.2.1.1 | exact hk.1.2.1.2 | exact hk.1.2.2.1 | exact hk.1.2.2.2 | exact hk.2.1.1.1 | exact hk.2.1.1.2 | exact hk.2.1.2.1 | exact hk.2.1.2.2 | exact hk.2.2.1.1 | exact hk.2.2.1.2 | exact hk.2.2.2.1 | exact hk.2.2.2.2 | constructor))))⟩; have n1_ : Aside0 (Kd.V (Kd.int .i64) 3 w61 w.heap.size (fun k_ => (w.heap.size ≤ k_) ∧ some k_ ≠ (.slice (some ⟨go40, 0, none⟩) x5_3.length co52 : Value).ownBlock ∧ some k_ ≠ (.slice (some ⟨go44, 0, none⟩) x7_3.length co57 : Value).ownBlock) (.slice A412_0 (rd_L2 x5_3 x8_3).length c412_0) (rd_L2 x5_3 x8_3)) := ⟨by rw [← hq_]; exact (by exact Kd.V_mono HL412_0.out (fun _ hk => by first | exact ⟨hk.1.1, ⟨hk.1.2, hk.2⟩⟩ | (repeat' (first | exact hk.1 | exact hk.2 | exact hk.1.1 | exact hk.1.2 | exact hk.2.1 | exact hk.2.2 | exact hk.1.1.1 | exact hk.1.1.2 | exact hk.1.2.1 | exact hk.1.2.2 | exact hk.2.1.1 | exact hk.2.1.2 | exact hk.2.2.1 | exact hk.2.2.2 | exact hk.1.1.1.1 | exact hk.1.1.1.2 | exact hk.1.1.2.1 | exact hk.1.1.2.2 | exact hk.1.2.1.1 | exact hk.1.2.1.2 | exact hk.1.2.2.1 | exact hk.1.2.2.2 | exact hk.2.1.1.1 | exact hk.2.1.1.2 | exact hk.2.1.2.1 | exact hk.2.1.2.2 | exact hk.2.2.1.1 | exact hk.2.2.1.2 | exact hk.2.2.2.1 | exact hk.2.2.2.2 | constructor))))⟩; have n2_ : Aside0 (Kd.V (Kd.int .i64) 3 w61 w.heap.size (fun k_ => (w.heap.size ≤ k_) ∧ some k_ ≠ (.slice (some ⟨go40, 0, none⟩) x5_3.length co52 : Value).ownBlock ∧ some k_ ≠ (.slice (some ⟨go44, 0, none⟩) x7_3.length co57 : Value).ownBlock) (.slice A415_0 (rd_L2 x7_3 x9_23).length c415_0) (rd_L2 x7_3 x9_23)) := ⟨by rw [← hq_]; exact (by exact Kd.V_mono HL415_0.out (fun _ hk => by first | exact ⟨hk.1.1, ⟨hk.1.2, hk.2⟩⟩ | (repeat' (first | exact hk.1 | exact hk.2 | exact hk.1.1 | exact hk.1.2 | exact hk.2.1 | exact hk.2.2 | exact hk.1.1.1 | exact hk.1.1.2 | exact hk.1.2.1 | exact hk.1.2.2 | exact hk.2.1.1 | exact hk.2.1.2 | exact hk.2.2.1 | exact hk.2.2.2 | exact hk.1.1.1.1 | exact hk.1.1.1.2 | exact hk.1.1.2.1 | exact hk.1.1.2.2 | exact hk.1.2.1.1 | exact hk.1.2.1.2 | exact hk.1.2.2.1 | exact hk.1.2.2.2 | exact hk.2.1.1.1 | exact hk.2.1.1.2 | exact hk.2.1.2.1 | exact hk.2.1.2.2 | exact hk.2.2.1.1 | exact hk.2.2.1.2 | exact hk.2.2.2.1 | exact hk.2.2.2.2 | constructor))))⟩; have n3_ : Aside0 (Kd.V (Kd.int .i64) 3 w61 w.heap.size (fun k_ => (w.heap.size ≤ k_) ∧ some k_ ≠ (.slice (some ⟨go40, 0, none⟩) x5_3.length co52 : Value).ownBlock ∧ some k_ ≠ (.slice (some ⟨go44, 0, none⟩) x7_3.length co57 : Value).ownBlock) (.slice A416_0 (rd_L2 x7_3 x8_3).length c416_0) (rd_L2 x7_3 x8_3)) := ⟨by rw [← hq_]; exact (by exact Kd.V_mono HL416_0.out (fun _ hk => by first | exact ⟨hk.1.1, ⟨hk.1.2, hk.2⟩⟩ | (repeat' (first | exact hk.1 | exact hk.2 | exact hk.1.1 | exact hk.1.2 | exact hk.2.1 | exact hk.2.2 | exact hk.1.1.1 | exact hk.1.1.2 | exact hk.1.2.1 | exact hk.1.2.2 | exact hk.2.1.1 | exact hk.2.1.2 | exact hk.2.2.1 | exact hk.2.2.2 | exact hk.1.1.1.1 | exact hk.1.1.1.2 | exact hk.1.1.2.1 | exact hk.1.1.2.2 | exact hk.1.2.1.1 | exact hk.1.2.1.2 | exact hk.1.2.2.1 | exact hk.1.2.2.2 | exact hk.2.1.1.1 | exact hk.2.1.1.2 | exact hk.2.1.2.1 | exact hk.2.1.2.2 | exact hk.2.2.1.1 | exact hk.2.2.1.2 | exact hk.2.2.2.1 | exact hk.2.2.2.2 | constructor))))⟩; have n4_ : Aside0 (Kd.V (Kd.int .i64) 3 w61 w.heap.size (fun k_ => (w.heap.size ≤ k_) ∧ some k_ ≠ (.slice (some ⟨go40, 0, none⟩) x5_3.length co52 : Value).ownBlock ∧ some k_ ≠ (.slice (some ⟨go44, 0, none⟩) x7_3.length co57 : Value).ownBlock) (.slice (some ad420) (rd_L2 y414 x8_3).length c419_0) (rd_L2 y414 x8_3)) := ⟨by rw [← hq_]; exact (by exact Kd.V_mono HL419_0.out (fun _ hk => by first | exact ⟨hk.1.1, ⟨hk.2, hk.1.2⟩⟩ | (repeat' (first | exact hk.1 | exact hk.2 | exact hk.1.1 | exact hk.1.2 | exact hk.2.1 | exact hk.2.2 | exact hk.1.1.1 | exact hk.1.1.2 | exact hk.1.2.1 | exact hk.1.2.2 | exact hk.2.1.1 | exact hk.2.1.2 | exact hk.2.2.1 | exact hk.2.2.2 | exact hk.1.1.1.1 | exact hk.1.1.1.2 | exact hk.1.1.2.1 | exact hk.1.1.2.2 | exact hk.1.2.1.1 | exact hk.1.2.1.2 | exact hk.1.2.2.1 | exact hk.1.2.2.2 | exact hk.2.1.1.1 | exact hk.2.1.1.2 | exact hk.2.1.2.1 | exact hk.2.1.2.2 | exact hk.2.2.1.1 | exact hk.2.2.1.2 | exact hk.2.2.2.1 | exact hk.2.2.2.2 | constructor))))⟩; have n5_ : Aside0 (Kd.N (Kd.slice 3 (Kd.int .i64)) 32 w61 w.heap.size (fun k_ => (w.heap.size ≤ k_) ∧ some k_ ≠ (.slice (some ⟨go44, 0, none⟩) x7_3.length co57 : Value).ownBlock) (.slice (some ⟨go40, 0, none⟩) x5_3.length co52) y414) := ⟨by rw [← hq_]; exact (by exact HO_5.out)⟩; have n6_ : Aside0 (Kd.N (Kd.slice 3 (Kd.int .i64)) 32 w61 w.heap.size (fun k_ => (w.heap.size ≤ k_) ∧ some k_ ≠ (.slice (some ⟨go40, 0, none⟩) x5_3.length co52 : Value).ownBlock) (.slice (some ⟨go44, 0, none⟩) x7_3.length co57) y418) := ⟨by rw [← hq_]; exact (by exact HO_7.out)⟩; have n7_ : Aside0 (Below w.heap.size w w61) := ⟨by rw [← hq_]; exact (by repeat (first | exact HB.out | apply bA | apply bN | apply bD))⟩; have n8_ : Aside0 (Kd.C (Kd.int .i64) w61 (some ad420) (rd_L2 y414 x8_3).length (rd_L2 y414 x8_3)) := ⟨by rw [← hq_]; exact (by repeat (first | (with_reducible exact HR419_0.out) | (with_reducible refine Kd.C_alloc ?_ _) | (with_reducible refine Kd.C_drewN ?_ _) | (with_reducible refine Kd.C_drew ?_) | exact HR419_0.out))⟩; (try have hx419_0 := (congrArg (fun W_ => World.cell? W_ _) hq_).symm.trans hx419_0); clear HL411_0 HL412_0 HL415_0 HL416_0 HL419_0 HO_5 HO_7 HB HR419_0 hq_; have HL411_0 := n0_; have HL412_0 := n1_; have HL415_0 := n2_; have HL416_0 := n3_; have HL419_0 := n4_; have HO_5 := n5_; have HO_7 := n6_; have HB := n7_; have HR419_0 := n8_; clear n0_ n1_ n2_ n3_ n4_ n5_ n6_ n7_ n8_)); have p422 : 0 ≤ (x8_3 : Int) := od; have q422 : x8_3 < (y414.length : Int) := (by have h_ : (x8_3 : Int) < ((x5_3.length : Int) : Int) := od; first | (have e_ := (Kd.N_reads' HO_5.out).1; omega) | simpa only [Ny413.out, Ny414.out, List.length_set] using h_); have ql422 : ((x8_3 : Int) < ((x5_3.length : Int) : Int)) = True := eq_true (od); obtain ⟨ad422, A422_0, c422_0, e422, hx422_0, hl422_0, hi422_0⟩ := at_L2 (Kd.N_reads' HO_5.out).2.2 x8_3 p422 q422; obtain rfl : (⟨go40, 0, none⟩ : Addr) = ad422 := (by injection e422); obtain ⟨ce422, hce422, hMe422, hcc422⟩ := Kd.N_get HO_5.out [] x8_3 p422 (by first | exact q422 | exact od | (have e_ := (Kd.N_reads' HO_5.out).1; omega)); obtain ⟨ua422_0, uc422_0, rfl, ul422_0, ge422_0⟩ := Kd.FK_slice_open hMe422; have hv422_0 := hcc422 0 _ rfl; rw [Nat.add_zero, show ((Kd.slice 3 (Kd.int .i64))).sz = 1 from rfl, Nat.mul_one] at hv422_0; replace hv422_0 := Option.some.inj (hv422_0.symm.trans hx422_0); injection hv422_0 with hva_ hvn_ hvc_; rw [hva_] at ge422_0; rw [hvc_] at ul422_0; have HL422_0 := AM (show Kd.V (Kd.int .i64) 3 _ w.heap.size _ _ (rd_L2 y414 x8_3) from Kd.V_mk ul422_0 ge422_0); clear hva_ hvn_ hvc_ ge422_0 ul422_0; clear hcc422 hce422; (first | simp only [add_plain] at hx422_0 | simp only [add_at] at hx422_0 | simp only [Addr.add, Nat.zero_add] at hx422_0 | skip); have HR422_0 := AM hi422_0; have HC422_0 := AM hl422_0; clear hi422_0 hl422_0; replace p422 := eq_true p422; replace q422 := eq_true q422; have ea_ := Option.some.inj (hx419_0.symm.trans hx422_0); injection ea_ with ea_ en_ ec_; subst ea_; subst ec_; clear en_) | ((with_reducible refine gate_callee (f := 58) rfl ?_); refine goesL_ (some 117) rfl rfl Try.func58 (by kernel_rfl) rfl #[.slice (some ad420) (rd_L2 y414 x8_3).length c419_0, .int .i64 t421] rfl (by (try simp only [List.map_toArray, List.map_cons, List.map_nil]); first | done | rfl) ?_; (with_reducible refine (spec_l06Times.calls kj23 _ _ (rd_L2 y414 x8_3) t421 t423 _ ?side1 ?side2 A48.out).mono ?_); (case side1 => repeat (first | exact (by repeat (first | (with_reducible exact HR422_0.out) | (with_reducible refine Kd.C_alloc ?_ _) | (with_reducible refine Kd.C_drewN ?_ _) | (with_reducible refine Kd.C_drew ?_) | exact HR422_0.out)) | (with_reducible refine Kd.C_alloc ?_ _) | (with_reducible refine Kd.C_drewN ?_ _) | (with_reducible refine Kd.C_drew ?_))); (case side2 => exact HC422_0.out); rintro e w62 ⟨v424, rfl, ho0, hb⟩; refine ⟨_, rfl, ?_⟩; have n0_ := AM (Kd.N_elder' (by exact HO_5.out) (Kd.R_base ho0) hb); have n1_ := AM (Kd.N_elder' (by exact HO_7.out) (Kd.R_base ho0) hb); have n2_ := AM (Kd.V_elder' (by exact HL411_0.out) (Kd.R_base ho0) hb); have n3_ := AM (Kd.V_elder' (by exact HL412_0.out) (Kd.R_base ho0) hb); have n4_ := AM (Kd.V_elder' (by exact HL415_0.out) (Kd.R_base ho0) hb); have n5_ := AM (Kd.V_elder' (by exact HL416_0.out) (Kd.R_base ho0) hb); have n6_ := AM (Kd.V_elder' (by exact HL419_0.out) (Kd.R_base ho0) hb); have n7_ := AM (Kd.V_elder' (by exact HL422_0.out) (Kd.R_base ho0) hb); have n8_ := AM (Kd.R_lower (Kd.R_newM (M := fun k_ => (w.heap.size ≤ k_)) ho0 (below_size (by repeat (first | exact HB.out | apply bA | apply bN | apply bD))) (fun k_ h_ => h_)) (below_size (by repeat (first | exact HB.out | apply bA | apply bN | apply bD)))); have n9_ := AM (Kd.C_below (by repeat (first | (with_reducible exact HR419_0.out) | (with_reducible refine Kd.C_alloc ?_ _) | (with_reducible refine Kd.C_drewN ?_ _) | (with_reducible refine Kd.C_drew ?_) | exact HR419_0.out)) hb); have n10_ := AM (Kd.C_below (by repeat (first | (with_reducible exact HR422_0.out) | (with_reducible refine Kd.C_alloc ?_ _) | (with_reducible refine Kd.C_drewN ?_ _) | (with_reducible refine Kd.C_drew ?_) | exact HR422_0.out)) hb); have n11_ := AM (below_step (by repeat (first | exact HB.out | apply bA | apply bN | apply bD)) hb); clear HO_5; clear HO_7; clear HL411_0; clear HL412_0; clear HL415_0; clear HL416_0; clear HL419_0; clear HL422_0; clear HR419_0; clear HR422_0; clear HB; have HO_5 := n0_; have HO_7 := n1_; have HL411_0 := n2_; have HL412_0 := n3_; have HL415_0 := n4_; have HL416_0 := n5_; have HL419_0 := n6_; have HL422_0 := n7_; have HO425 := n8_; have HR419_0 := n9_; have HR422_0 := n10_; have HB := n11_; clear n0_ n1_ n2_ n3_ n4_ n5_ n6_ n7_ n8_ n9_ n10_ n11_; (try clear hb); (try clear hk); (try clear ho0); have p49 : 0 ≤ (x8_3 : Int) := od; have q49 : (x8_3 : Int) < ((x5_3.length : Int) : Int) := od; obtain ⟨ce49, hcl49, hM49, hcc49, hfr49⟩ := Kd.N_elem HO_5.out [] (x8_3 : Int) p49 q49; obtain ⟨ua49_0, uc49_0, rfl, ul49_0, ge49_0⟩ := Kd.FK_slice_open hM49; have hx49_0 := hcc49 0 _ rfl; have hf49_0 := hfr49 0; (try simp only [show ((Kd.slice 3 (Kd.int .i64))).sz = 1 from rfl, Nat.mul_one, Nat.add_zero] at hx49_0); (try simp only [show ((Kd.slice 3 (Kd.int .i64))).sz = 1 from rfl, Nat.mul_one, Nat.add_zero] at hf49_0); (try clear hM49); clear hcl49 hcc49 hfr49; replace p49 := eq_true p49; replace q49 := eq_true q49; obtain ⟨Ao65, co65, eo65⟩ := Kd.R_slice HO425.out; subst eo65; have n_ := AM (Kd.N_mono (ok' := (fun k_ => (w.heap.size ≤ k_) ∧ some k_ ≠ (.slice (some ⟨go44, 0, none⟩) x7_3.length co57 : Value).ownBlock ∧ some k_ ≠ (.slice Ao65 t423.length co65 : Value).ownBlock)) HO_5.out (fun k_ hk => ⟨hk.1.1, ⟨hk.1.2, hk.2⟩⟩)); clear HO_5; have HO_5 := n_; clear n_; have HX63 := AM (show Kd.N (Kd.slice 3 (Kd.int .i64)) 32 w62 w.heap.size (fun k_ => (w.heap.size ≤ k_) ∧ some k_ ≠ (.slice (some ⟨go44, 0, none⟩) x7_3.length co57 : Value).ownBlock) (.slice (some ⟨go40, 0, none⟩) x5_3.length co52) y414 from (by exact Kd.N_mono HO_5.out (fun _ hk => ⟨hk.1, hk.2.1⟩))); obtain ⟨ce63, hcl63, hM63, hcc63, hfr63⟩ := Kd.N_elem HX63.out [] (x8_3 : Int) (od) (by have h_ : (x8_3 : Int) < ((x5_3.length : Int) : Int) := od; first | exact h_ | (have e_ := (Kd.N_reads' HO_5.out).1; omega) | simpa using h_); obtain ⟨ua63_0, uc63_0, rfl, ul63_0, ge63_0⟩ := Kd.FK_slice_open hM63; have HP63 := Kd.N_seg HX63.out (x8_3 : Int) (od) (by have h_ : (x8_3 : Int) < ((x5_3.length : Int) : Int) := od; first | exact h_ | (have e_ := (Kd.N_reads' HO_5.out).1; omega) | simpa using h_) (seg := [.slice Ao65 t423.length co65]) (j := 0) hcl63 hcc63 (show 1 ≤ 1 from by decide) (x' := t423) (Kd.FK_slice_mk (Kd.R_reads' (Kd.R_mono (ok' := (fun k_ => ((fun k_ => (w.heap.size ≤ k_) ∧ some k_ ≠ (.slice (some ⟨go44, 0, none⟩) x7_3.length co57 : Value).ownBlock)) k_ ∧ k_ ≠ go40)) (Kd.R_apart' (Kd.R_apart' (HO425.out) (Kd.N_typed HO_7.out) (by decide)) (Kd.N_typed HO_5.out) (by decide)) (fun k_ hk => ⟨⟨hk.1.1.1, hk.1.2⟩, fun e_ => (hk.2) (by rw [e_]; rfl)⟩))).2.1 (Kd.R_F (Kd.R_mono (ok' := (fun k_ => ((fun k_ => (w.heap.size ≤ k_) ∧ some k_ ≠ (.slice (some ⟨go44, 0, none⟩) x7_3.length co57 : Value).ownBlock)) k_ ∧ k_ ≠ go40)) (Kd.R_apart' (Kd.R_apart' (HO425.out) (Kd.N_typed HO_7.out) (by decide)) (Kd.N_typed HO_5.out) (by decide)) (fun k_ hk => ⟨⟨hk.1.1.1, hk.1.2⟩, fun e_ => (hk.2) (by rw [e_]; rfl)⟩)))) (fun _ hk => hk); have hx63_0 := hcc63 0 _ rfl; (try simp only [show ((Kd.slice 3 (Kd.int .i64))).sz = 1 from rfl, Nat.mul_one, Nat.add_zero] at hx63_0); have hf63_0 := hfr63 0; (try simp only [show ((Kd.slice 3 (Kd.int .i64))).sz = 1 from rfl, Nat.mul_one, Nat.add_zero] at hf63_0); (try clear hM63); clear hcl63 hcc63 hfr63; (try simp only [show ((Kd.slice 3 (Kd.int .i64))).sz = 1 from rfl, Nat.mul_one, Nat.add_zero] at HP63); (try simp only [show ((Kd.slice 3 (Kd.int .i64))).sz = 1 from rfl, Nat.mul_one, Nat.add_zero] at HP63)) | ((with_reducible refine gate_store (t := 32) (p := 118) rfl ?_); refine store_event (t := 32) (p := 118) (v := ?vo_w64) (w1 := (w62.setCell ⟨go40, (x8_3 : Int).toNat, none⟩ (.slice Ao65 t423.length co65))) ?hg ?ho ?hn ?hr ?_; (case ho => rfl); (case hg => rfl); (case hn => rfl); (case hr => first | (go_simp; done) | (go_simp; rfl)); intro w64 hw; have hg : w62.grownBy w64 (some go40) := (by rw [hw]; exact HP63.2); have hp_ : Kd.N (Kd.slice 3 (Kd.int .i64)) 32 w64 w.heap.size (fun k_ => (w.heap.size ≤ k_) ∧ some k_ ≠ (.slice (some ⟨go44, 0, none⟩) x7_3.length co57 : Value).ownBlock) (.slice (some ⟨go40, 0, none⟩) x5_3.length co52) y426 := (by rw [hw, Ny426.out]; exact HP63.1); clear HP63; have n0_ := AM (hp_); have n1_ := AM (Kd.N_afterv (v := (.slice (some ⟨go40, 0, none⟩) x5_3.length co52)) (v1 := (.slice (some ⟨go40, 0, none⟩) x5_3.length co52)) (ok := (fun k_ => (w.heap.size ≤ k_) ∧ some k_ ≠ (.slice Ao65 t423.length co65 : Value).ownBlock)) (by exact Kd.N_mono HO_7.out (fun _ hk => ⟨⟨hk.1.1, hk.2⟩, hk.1.2⟩)) hg (.inl rfl)); have n2_ := AM (Kd.V_afterv (v := (.slice (some ⟨go40, 0, none⟩) x5_3.length co52)) (v1 := (.slice (some ⟨go40, 0, none⟩) x5_3.length co52)) (ok := (fun k_ => (w.heap.size ≤ k_) ∧ some k_ ≠ (.slice (some ⟨go44, 0, none⟩) x7_3.length co57 : Value).ownBlock ∧ some k_ ≠ (.slice Ao65 t423.length co65 : Value).ownBlock)) (by exact Kd.V_mono HL411_0.out (fun _ hk => by first | exact ⟨⟨hk.1.1.1, ⟨hk.1.2, hk.2⟩⟩, hk.1.1.2⟩ | (repeat' (first | exact hk.1 | exact hk.2 | exact hk.1.1 | exact hk.1.2 | exact hk.2.1 | exact hk.2.2 | exact hk.1.1.1 | exact hk.1.1.2 | exact hk.1.2.1 | exact hk.1.2.2 | exact hk.2.1.1 | exact hk.2.1.2 | exact hk.2.2.1 | exact hk.2.2.2 | exact hk.1.1.1.1 | exact hk.1.1.1.2 | exact hk.1.1.2.1 | exact hk.1.1.2.2 | exact hk.1.2.1.1 | exact hk.1.2.1.2 | exact hk.1.2.2.1 | exact hk.1.2.2.2 | exact hk.2.1.1.1 | exact hk.2.1.1.2 | exact hk.2.1.2.1 | exact hk.2.1.2.2 | exact hk.2.2.1.1 | exact hk.2.2.1.2 | exact hk.2.2.2.1 | exact hk.2.2.2.2 | constructor)))) hg (.inl rfl)); have n3_ := AM (Kd.V_afterv (v := (.slice (some ⟨go40, 0, none⟩) x5_3.length co52)) (v1 := (.slice (some ⟨go40, 0, none⟩) x5_3.length co52)) (ok := (fun k_ => (w.heap.size ≤ k_) ∧ some k_ ≠ (.slice (some ⟨go44, 0, none⟩) x7_3.length co57 : Value).ownBlock ∧ some k_ ≠ (.slice Ao65 t423.length co65 : Value).ownBlock)) (by exact Kd.V_mono HL412_0.out (fun _ hk => by first | exact ⟨⟨hk.1.1.1, ⟨hk.1.2, hk.2⟩⟩, hk.1.1.2⟩ | (repeat' (first | exact hk.1 | exact hk.2 | exact hk.1.1 | exact hk.1.2 | exact hk.2.1 | exact hk.2.2 | exact hk.1.1.1 | exact hk.1.1.2 | exact hk.1.2.1 | exact hk.1.2.2 | exact hk.2.1.1 | exact hk.2.1.2 | exact hk.2.2.1 | exact hk.2.2.2 | exact hk.1.1.1.1 | exact hk.1.1.1.2 | exact hk.1.1.2.1 | exact hk.1.1.2.2 | exact hk.1.2.1.1 | exact hk.1.2.1.2 | exact hk.1.2.2.1 | exact hk.1.2.2.2 | exact hk.2.1.1.1 | exact hk.2.1.1.2 | exact hk.2.1.2.1 | exact hk.2.1.2.2 | exact hk.2.2.1.1 | exact hk.2.2.1.2 | exact hk.2.2.2.1 | exact hk.2.2.2.2 | constructor)))) hg (.inl rfl)); have n4_ := AM (Kd.V_afterv (v := (.slice (some ⟨go40, 0, none⟩) x5_3.length co52)) (v1 := (.slice (some ⟨go40, 0, none⟩) x5_3.length co52)) (ok := (fun k_ => (w.heap.size ≤ k_) ∧ some k_ ≠ (.slice (some ⟨go44, 0, none⟩) x7_3.length co57 : Value).ownBlock ∧ some k_ ≠ (.slice Ao65 t423.length co65 : Value).ownBlock)) (by exact Kd.V_mono HL415_0.out (fun _ hk => by first | exact ⟨⟨hk.1.1.1, ⟨hk.1.2, hk.2⟩⟩, hk.1.1.2⟩ | (repeat' (first | exact hk.1 | exact hk.2 | exact hk.1.1 | exact hk.1.2 | exact hk.2.1 | exact hk.2.2 | exact hk.1.1.1 | exact hk.1.1.2 | exact hk.1.2.1 | exact hk.1.2.2 | exact hk.2.1.1 | exact hk.2.1.2 | exact hk.2.2.1 | exact hk.2.2.2 | exact hk.1.1.1.1 | exact hk.1.1.1.2 | exact hk.1.1.2.1 | exact hk.1.1.2.2 | exact hk.1.2.1.1 | exact hk.1.2.1.2 | exact hk.1.2.2.1 | exact hk.1.2.2.2 | exact hk.2.1.1.1 | exact hk.2.1.1.2 | exact hk.2.1.2.1 | exact hk.2.1.2.2 | exact hk.2.2.1.1 | exact hk.2.2.1.2 | exact hk.2.2.2.1 | exact hk.2.2.2.2 | constructor)))) hg (.inl rfl)); have n5_ := AM (Kd.V_afterv (v := (.slice (some ⟨go40, 0, none⟩) x5_3.length co52)) (v1 := (.slice (some ⟨go40, 0, none⟩) x5_3.length co52)) (ok := (fun k_ => (w.heap.size ≤ k_) ∧ some k_ ≠ (.slice (some ⟨go44, 0, none⟩) x7_3.length co57 : Value).ownBlock ∧ some k_ ≠ (.slice Ao65 t423.length co65 : Value).ownBlock)) (by exact Kd.V_mono HL416_0.out (fun _ hk => by first | exact ⟨⟨hk.1.1.1, ⟨hk.1.2, hk.2⟩⟩, hk.1.1.2⟩ | (repeat' (first | exact hk.1 | exact hk.2 | exact hk.1.1 | exact hk.1.2 | exact hk.2.1 | exact hk.2.2 | exact hk.1.1.1 | exact hk.1.1.2 | exact hk.1.2.1 | exact hk.1.2.2 | exact hk.2.1.1 | exact hk.2.1.2 | exact hk.2.2.1 | exact hk.2.2.2 | exact hk.1.1.1.1 | exact hk.1.1.1.2 | exact hk.1.1.2.1 | exact hk.1.1.2.2 | exact hk.1.2.1.1 | exact hk.1.2.1.2 | exact hk.1.2.2.1 | exact hk.1.2.2.2 | exact hk.2.1.1.1 | exact hk.2.1.1.2 | exact hk.2.1.2.1 | exact hk.2.1.2.2 | exact hk.2.2.1.1 | exact hk.2.2.1.2 | exact hk.2.2.2.1 | exact hk.2.2.2.2 | constructor)))) hg (.inl rfl)); have n6_ := AM (Kd.V_afterv (v := (.slice (some ⟨go40, 0, none⟩) x5_3.length co52)) (v1 := (.slice (some ⟨go40, 0, none⟩) x5_3.length co52)) (ok := (fun k_ => (w.heap.size ≤ k_) ∧ some k_ ≠ (.slice (some ⟨go44, 0, none⟩) x7_3.length co57 : Value).ownBlock ∧ some k_ ≠ (.slice Ao65 t423.length co65 : Value).ownBlock)) (by exact Kd.V_mono HL419_0.out (fun _ hk => by first | exact ⟨⟨hk.1.1.1, ⟨hk.1.1.2, hk.2⟩⟩, hk.1.2⟩ | (repeat' (first | exact hk.1 | exact hk.2 | exact hk.1.1 | exact hk.1.2 | exact hk.2.1 | exact hk.2.2 | exact hk.1.1.1 | exact hk.1.1.2 | exact hk.1.2.1 | exact hk.1.2.2 | exact hk.2.1.1 | exact hk.2.1.2 | exact hk.2.2.1 | exact hk.2.2.2 | exact hk.1.1.1.1 | exact hk.1.1.1.2 | exact hk.1.1.2.1 | exact hk.1.1.2.2 | exact hk.1.2.1.1 | exact hk.1.2.1.2 | exact hk.1.2.2.1 | exact hk.1.2.2.2 | exact hk.2.1.1.1 | exact hk.2.1.1.2 | exact hk.2.1.2.1 | exact hk.2.1.2.2 | exact hk.2.2.1.1 | exact hk.2.2.1.2 | exact hk.2.2.2.1 | exact hk.2.2.2.2 | constructor)))) hg (.inl rfl)); have n7_ := AM (Kd.V_afterv (v := (.slice (some ⟨go40, 0, none⟩) x5_3.length co52)) (v1 := (.slice (some ⟨go40, 0, none⟩) x5_3.length co52)) (ok := (fun k_ => (w.heap.size ≤ k_) ∧ some k_ ≠ (.slice (some ⟨go44, 0, none⟩) x7_3.length co57 : Value).ownBlock ∧ some k_ ≠ (.slice Ao65 t423.length co65 : Value).ownBlock)) (by exact Kd.V_mono HL422_0.out (fun _ hk => by first | exact ⟨⟨hk.1.1.1, ⟨hk.1.1.2, hk.2⟩⟩, hk.1.2⟩ | (repeat' (first | exact hk.1 | exact hk.2 | exact hk.1.1 | exact hk.1.2 | exact hk.2.1 | exact hk.2.2 | exact hk.1.1.1 | exact hk.1.1.2 | exact hk.1.2.1 | exact hk.1.2.2 | exact hk.2.1.1 | exact hk.2.1.2 | exact hk.2.2.1 | exact hk.2.2.2 | exact hk.1.1.1.1 | exact hk.1.1.1.2 | exact hk.1.1.2.1 | exact hk.1.1.2.2 | exact hk.1.2.1.1 | exact hk.1.2.1.2 | exact hk.1.2.2.1 | exact hk.1.2.2.2 | exact hk.2.1.1.1 | exact hk.2.1.1.2 | exact hk.2.1.2.1 | exact hk.2.1.2.2 | exact hk.2.2.1.1 | exact hk.2.2.1.2 | exact hk.2.2.2.1 | exact hk.2.2.2.2 | constructor)))) hg (.inl rfl)); have n8_ := AM ((by rw [hw]; exact below_set (HB.out) GB40.out : Below w.heap.size w w64)); clear HO_5; clear HO_7; clear HL411_0; clear HL412_0; clear HL415_0; clear HL416_0; clear HL419_0; clear HL422_0; clear HB; clear HO425; have HO_5 := n0_; have HO_7 := n1_; have HL411_0 := n2_; have HL412_0 := n3_; have HL415_0 := n4_; have HL416_0 := n5_; have HL419_0 := n6_; have HL422_0 := n7_; have HB := n8_; clear n0_ n1_ n2_ n3_ n4_ n5_ n6_ n7_ n8_; clear hg hw hp_; have p427 : 0 ≤ (x8_3 : Int) := od; have q427 : x8_3 < (y418.length : Int) := (by have h_ : (x8_3 : Int) < ((x7_3.length : Int) : Int) := od; first | (have e_ := (Kd.N_reads' HO_7.out).1; omega) | simpa only [Ny417.out, Ny418.out, List.length_set] using h_); have ql427 : ((x8_3 : Int) < ((x7_3.length : Int) : Int)) = True := eq_true (od); obtain ⟨ad427, A427_0, c427_0, e427, hx427_0, hl427_0, hi427_0⟩ := at_L2 (Kd.N_reads' HO_7.out).2.2 x8_3 p427 q427; obtain rfl : (⟨go44, 0, none⟩ : Addr) = ad427 := (by injection e427); obtain ⟨ce427, hce427, hMe427, hcc427⟩ := Kd.N_get HO_7.out [] x8_3 p427 (by first | exact q427 | exact od | (have e_ := (Kd.N_reads' HO_7.out).1; omega)); obtain ⟨ua427_0, uc427_0, rfl, ul427_0, ge427_0⟩ := Kd.FK_slice_open hMe427; have hv427_0 := hcc427 0 _ rfl; rw [Nat.add_zero, show ((Kd.slice 3 (Kd.int .i64))).sz = 1 from rfl, Nat.mul_one] at hv427_0; replace hv427_0 := Option.some.inj (hv427_0.symm.trans hx427_0); injection hv427_0 with hva_ hvn_ hvc_; rw [hva_] at ge427_0; rw [hvc_] at ul427_0; have HL427_0 := AM (show Kd.V (Kd.int .i64) 3 _ w.heap.size _ _ (rd_L2 y418 x8_3) from Kd.V_mk ul427_0 ge427_0); clear hva_ hvn_ hvc_ ge427_0 ul427_0; clear hcc427 hce427; (first | simp only [add_plain] at hx427_0 | simp only [add_at] at hx427_0 | simp only [Addr.add, Nat.zero_add] at hx427_0 | skip); have HR427_0 := AM hi427_0; have HC427_0 := AM hl427_0; clear hi427_0 hl427_0; replace p427 := eq_true p427; replace q427 := eq_true q427) | ((with_reducible refine gate_callee (f := 58) rfl ?_); refine goesL_ (some 126) rfl rfl Try.func58 (by kernel_rfl) rfl #[.slice A427_0 (rd_L2 y418 x8_3).length c427_0, .int .i64 t421] rfl (by (try simp only [List.map_toArray, List.map_cons, List.map_nil]); first | done | rfl) ?_; (with_reducible refine (spec_l06Times.calls kj23 _ _ (rd_L2 y418 x8_3) t421 t428 _ ?side1 ?side2 A50.out).mono ?_); (case side1 => repeat (first | exact (by repeat (first | (with_reducible exact HR427_0.out) | (with_reducible refine Kd.C_alloc ?_ _) | (with_reducible refine Kd.C_drewN ?_ _) | (with_reducible refine Kd.C_drew ?_) | exact HR427_0.out)) | (with_reducible refine Kd.C_alloc ?_ _) | (with_reducible refine Kd.C_drewN ?_ _) | (with_reducible refine Kd.C_drew ?_))); (case side2 => exact HC427_0.out); rintro e w66 ⟨v429, rfl, ho0, hb⟩; refine ⟨_, rfl, ?_⟩; have n0_ := AM (Kd.N_elder' (by exact HO_5.out) (Kd.R_base ho0) hb); have n1_ := AM (Kd.N_elder' (by exact HO_7.out) (Kd.R_base ho0) hb); have n2_ := AM (Kd.V_elder' (by exact HL411_0.out) (Kd.R_base ho0) hb); have n3_ := AM (Kd.V_elder' (by exact HL412_0.out) (Kd.R_base ho0) hb); have n4_ := AM (Kd.V_elder' (by exact HL415_0.out) (Kd.R_base ho0) hb); have n5_ := AM (Kd.V_elder' (by exact HL416_0.out) (Kd.R_base ho0) hb); have n6_ := AM (Kd.V_elder' (by exact HL419_0.out) (Kd.R_base ho0) hb); have n7_ := AM (Kd.V_elder' (by exact HL422_0.out) (Kd.R_base ho0) hb); have n8_ := AM (Kd.V_elder' (by exact HL427_0.out) (Kd.R_base ho0) hb); have n9_ := AM (Kd.R_lower (Kd.R_newM (M := fun k_ => (w.heap.size ≤ k_)) ho0 (below_size (by repeat (first | exact HB.out | apply bA | apply bN | apply bD))) (fun k_ h_ => h_)) (below_size (by repeat (first | exact HB.out | apply bA | apply bN | apply bD)))); have n10_ := AM (Kd.C_below (by repeat (first | (with_reducible exact HR427_0.out) | (with_reducible refine Kd.C_alloc ?_ _) | (with_reducible refine Kd.C_drewN ?_ _) | (with_reducible refine Kd.C_drew ?_) | exact HR427_0.out)) hb); have n11_ := AM (below_step (by repeat (first | exact HB.out | apply bA | apply bN | apply bD)) hb); clear HO_5; clear HO_7; clear HL411_0; clear HL412_0; clear HL415_0; clear HL416_0; clear HL419_0; clear HL422_0; clear HL427_0; clear HR427_0; clear HB; have HO_5 := n0_; have HO_7 := n1_; have HL411_0 := n2_; have HL412_0 := n3_; have HL415_0 := n4_; have HL416_0 := n5_; have HL419_0 := n6_; have HL422_0 := n7_; have HL427_0 := n8_; have HO430 := n9_; have HR427_0 := n10_; have HB := n11_; clear n0_ n1_ n2_ n3_ n4_ n5_ n6_ n7_ n8_ n9_ n10_ n11_; (try clear hb); (try clear hk); (try clear ho0); have p51 : 0 ≤ (x8_3 : Int) := od; have q51 : (x8_3 : Int) < ((x7_3.length : Int) : Int) := od; obtain ⟨ce51, hcl51, hM51, hcc51, hfr51⟩ := Kd.N_elem HO_7.out [] (x8_3 : Int) p51 q51; obtain ⟨ua51_0, uc51_0, rfl, ul51_0, ge51_0⟩ := Kd.FK_slice_open hM51; have hx51_0 := hcc51 0 _ rfl; have hf51_0 := hfr51 0; (try simp only [show ((Kd.slice 3 (Kd.int .i64))).sz = 1 from rfl, Nat.mul_one, Nat.add_zero] at hx51_0); (try simp only [show ((Kd.slice 3 (Kd.int .i64))).sz = 1 from rfl, Nat.mul_one, Nat.add_zero] at hf51_0); (try clear hM51); clear hcl51 hcc51 hfr51; replace p51 := eq_true p51; replace q51 := eq_true q51; obtain ⟨Ao69, co69, eo69⟩ := Kd.R_slice HO430.out; subst eo69; have n_ := AM (Kd.N_mono (ok' := (fun k_ => (w.heap.size ≤ k_) ∧ some k_ ≠ (.slice (some ⟨go40, 0, none⟩) x5_3.length co52 : Value).ownBlock ∧ some k_ ≠ (.slice Ao69 t428.length co69 : Value).ownBlock)) HO_7.out (fun k_ hk => ⟨hk.1.1.1, ⟨hk.1.2, hk.2⟩⟩)); clear HO_7; have HO_7 := n_; clear n_; have HX67 := AM (show Kd.N (Kd.slice 3 (Kd.int .i64)) 32 w66 w.heap.size (fun k_ => (w.heap.size ≤ k_) ∧ some k_ ≠ (.slice (some ⟨go40, 0, none⟩) x5_3.length co52 : Value).ownBlock) (.slice (some ⟨go44, 0, none⟩) x7_3.length co57) y418 from (by exact Kd.N_mono HO_7.out (fun _ hk => ⟨hk.1, hk.2.1⟩))); obtain ⟨ce67, hcl67, hM67, hcc67, hfr67⟩ := Kd.N_elem HX67.out [] (x8_3 : Int) (od) (by have h_ : (x8_3 : Int) < ((x7_3.length : Int) : Int) := od; first | exact h_ | (have e_ := (Kd.N_reads' HO_7.out).1; omega) | simpa using h_); obtain ⟨ua67_0, uc67_0, rfl, ul67_0, ge67_0⟩ := Kd.FK_slice_open hM67; have HP67 := Kd.N_seg HX67.out (x8_3 : Int) (od) (by have h_ : (x8_3 : Int) < ((x7_3.length : Int) : Int) := od; first | exact h_ | (have e_ := (Kd.N_reads' HO_7.out).1; omega) | simpa using h_) (seg := [.slice Ao69 t428.length co69]) (j := 0) hcl67 hcc67 (show 1 ≤ 1 from by decide) (x' := t428) (Kd.FK_slice_mk (Kd.R_reads' (Kd.R_mono (ok' := (fun k_ => ((fun k_ => (w.heap.size ≤ k_) ∧ some k_ ≠ (.slice (some ⟨go40, 0, none⟩) x5_3.length co52 : Value).ownBlock)) k_ ∧ k_ ≠ go44)) (Kd.R_apart' (Kd.R_apart' (HO430.out) (Kd.N_typed HO_5.out) (by decide)) (Kd.N_typed HO_7.out) (by decide)) (fun k_ hk => ⟨⟨hk.1.1.1, hk.1.2⟩, fun e_ => (hk.2) (by rw [e_]; rfl)⟩))).2.1 (Kd.R_F (Kd.R_mono (ok' := (fun k_ => ((fun k_ => (w.heap.size ≤ k_) ∧ some k_ ≠ (.slice (some ⟨go40, 0, none⟩) x5_3.length co52 : Value).ownBlock)) k_ ∧ k_ ≠ go44)) (Kd.R_apart' (Kd.R_apart' (HO430.out) (Kd.N_typed HO_5.out) (by decide)) (Kd.N_typed HO_7.out) (by decide)) (fun k_ hk => ⟨⟨hk.1.1.1, hk.1.2⟩, fun e_ => (hk.2) (by rw [e_]; rfl)⟩)))) (fun _ hk => hk); have hx67_0 := hcc67 0 _ rfl; (try simp only [show ((Kd.slice 3 (Kd.int .i64))).sz = 1 from rfl, Nat.mul_one, Nat.add_zero] at hx67_0); have hf67_0 := hfr67 0; (try simp only [show ((Kd.slice 3 (Kd.int .i64))).sz = 1 from rfl, Nat.mul_one, Nat.add_zero] at hf67_0); (try clear hM67); clear hcl67 hcc67 hfr67; (try simp only [show ((Kd.slice 3 (Kd.int .i64))).sz = 1 from rfl, Nat.mul_one, Nat.add_zero] at HP67); (try simp only [show ((Kd.slice 3 (Kd.int .i64))).sz = 1 from rfl, Nat.mul_one, Nat.add_zero] at HP67)) | ((with_reducible refine gate_store (t := 32) (p := 127) rfl ?_); refine store_event (t := 32) (p := 127) (v := ?vo_w68) (w1 := (w66.setCell ⟨go44, (x8_3 : Int).toNat, none⟩ (.slice Ao69 t428.length co69))) ?hg ?ho ?hn ?hr ?_; (case ho => rfl); (case hg => rfl); (case hn => rfl); (case hr => first | (go_simp; done) | (go_simp; rfl)); intro w68 hw; have hg : w66.grownBy w68 (some go44) := (by rw [hw]; exact HP67.2); have hp_ : Kd.N (Kd.slice 3 (Kd.int .i64)) 32 w68 w.heap.size (fun k_ => (w.heap.size ≤ k_) ∧ some k_ ≠ (.slice (some ⟨go40, 0, none⟩) x5_3.length co52 : Value).ownBlock) (.slice (some ⟨go44, 0, none⟩) x7_3.length co57) y431 := (by rw [hw, Ny431.out]; exact HP67.1); clear HP67; have n0_ := AM (Kd.N_afterv (v := (.slice (some ⟨go44, 0, none⟩) x7_3.length co57)) (v1 := (.slice (some ⟨go44, 0, none⟩) x7_3.length co57)) (ok := (fun k_ => (w.heap.size ≤ k_) ∧ some k_ ≠ (.slice Ao69 t428.length co69 : Value).ownBlock)) (by exact Kd.N_mono HO_5.out (fun _ hk => ⟨⟨hk.1.1, hk.2⟩, hk.1.2⟩)) hg (.inl rfl)); have n1_ := AM (hp_); have n2_ := AM (Kd.V_afterv (v := (.slice (some ⟨go44, 0, none⟩) x7_3.length co57)) (v1 := (.slice (some ⟨go44, 0, none⟩) x7_3.length co57)) (ok := (fun k_ => (w.heap.size ≤ k_) ∧ some k_ ≠ (.slice (some ⟨go40, 0, none⟩) x5_3.length co52 : Value).ownBlock ∧ some k_ ≠ (.slice Ao69 t428.length co69 : Value).ownBlock)) (by exact Kd.V_mono HL411_0.out (fun _ hk => by first | exact ⟨⟨hk.1.1.1, ⟨hk.1.2, hk.2⟩⟩, hk.1.1.2.1⟩ | (repeat' (first | exact hk.1 | exact hk.2 | exact hk.1.1 | exact hk.1.2 | exact hk.2.1 | exact hk.2.2 | exact hk.1.1.1 | exact hk.1.1.2 | exact hk.1.2.1 | exact hk.1.2.2 | exact hk.2.1.1 | exact hk.2.1.2 | exact hk.2.2.1 | exact hk.2.2.2 | exact hk.1.1.1.1 | exact hk.1.1.1.2 | exact hk.1.1.2.1 | exact hk.1.1.2.2 | exact hk.1.2.1.1 | exact hk.1.2.1.2 | exact hk.1.2.2.1 | exact hk.1.2.2.2 | exact hk.2.1.1.1 | exact hk.2.1.1.2 | exact hk.2.1.2.1 | exact hk.2.1.2.2 | exact hk.2.2.1.1 | exact hk.2.2.1.2 | exact hk.2.2.2.1 | exact hk.2.2.2.2 | constructor)))) hg (.inl rfl)); have n3_ := AM (Kd.V_afterv (v := (.slice (some ⟨go44, 0, none⟩) x7_3.length co57)) (v1 := (.slice (some ⟨go44, 0, none⟩) x7_3.length co57)) (ok := (fun k_ => (w.heap.size ≤ k_) ∧ some k_ ≠ (.slice (some ⟨go40, 0, none⟩) x5_3.length co52 : Value).ownBlock ∧ some k_ ≠ (.slice Ao69 t428.length co69 : Value).ownBlock)) (by exact Kd.V_mono HL412_0.out (fun _ hk => by first | exact ⟨⟨hk.1.1.1, ⟨hk.1.2, hk.2⟩⟩, hk.1.1.2.1⟩ | (repeat' (first | exact hk.1 | exact hk.2 | exact hk.1.1 | exact hk.1.2 | exact hk.2.1 | exact hk.2.2 | exact hk.1.1.1 | exact hk.1.1.2 | exact hk.1.2.1 | exact hk.1.2.2 | exact hk.2.1.1 | exact hk.2.1.2 | exact hk.2.2.1 | exact hk.2.2.2 | exact hk.1.1.1.1 | exact hk.1.1.1.2 | exact hk.1.1.2.1 | exact hk.1.1.2.2 | exact hk.1.2.1.1 | exact hk.1.2.1.2 | exact hk.1.2.2.1 | exact hk.1.2.2.2 | exact hk.2.1.1.1 | exact hk.2.1.1.2 | exact hk.2.1.2.1 | exact hk.2.1.2.2 | exact hk.2.2.1.1 | exact hk.2.2.1.2 | exact hk.2.2.2.1 | exact hk.2.2.2.2 | constructor)))) hg (.inl rfl)); have n4_ := AM (Kd.V_afterv (v := (.slice (some ⟨go44, 0, none⟩) x7_3.length co57)) (v1 := (.slice (some ⟨go44, 0, none⟩) x7_3.length co57)) (ok := (fun k_ => (w.heap.size ≤ k_) ∧ some k_ ≠ (.slice (some ⟨go40, 0, none⟩) x5_3.length co52 : Value).ownBlock ∧ some k_ ≠ (.slice Ao69 t428.length co69 : Value).ownBlock)) (by exact Kd.V_mono HL415_0.out (fun _ hk => by first | exact ⟨⟨hk.1.1.1, ⟨hk.1.2, hk.2⟩⟩, hk.1.1.2.1⟩ | (repeat' (first | exact hk.1 | exact hk.2 | exact hk.1.1 | exact hk.1.2 | exact hk.2.1 | exact hk.2.2 | exact hk.1.1.1 | exact hk.1.1.2 | exact hk.1.2.1 | exact hk.1.2.2 | exact hk.2.1.1 | exact hk.2.1.2 | exact hk.2.2.1 | exact hk.2.2.2 | exact hk.1.1.1.1 | exact hk.1.1.1.2 | exact hk.1.1.2.1 | exact hk.1.1.2.2 | exact hk.1.2.1.1 | exact hk.1.2.1.2 | exact hk.1.2.2.1 | exact hk.1.2.2.2 | exact hk.2.1.1.1 | exact hk.2.1.1.2 | exact hk.2.1.2.1 | exact hk.2.1.2.2 | exact hk.2.2.1.1 | exact hk.2.2.1.2 | exact hk.2.2.2.1 | exact hk.2.2.2.2 | constructor)))) hg (.inl rfl)); have n5_ := AM (Kd.V_afterv (v := (.slice (some ⟨go44, 0, none⟩) x7_3.length co57)) (v1 := (.slice (some ⟨go44, 0, none⟩) x7_3.length co57)) (ok := (fun k_ => (w.heap.size ≤ k_) ∧ some k_ ≠ (.slice (some ⟨go40, 0, none⟩) x5_3.length co52 : Value).ownBlock ∧ some k_ ≠ (.slice Ao69 t428.length co69 : Value).ownBlock)) (by exact Kd.V_mono HL416_0.out (fun _ hk => by first | exact ⟨⟨hk.1.1.1, ⟨hk.1.2, hk.2⟩⟩, hk.1.1.2.1⟩ | (repeat' (first | exact hk.1 | exact hk.2 | exact hk.1.1 | exact hk.1.2 | exact hk.2.1 | exact hk.2.2 | exact hk.1.1.1 | exact hk.1.1.2 | exact hk.1.2.1 | exact hk.1.2.2 | exact hk.2.1.1 | exact hk.2.1.2 | exact hk.2.2.1 | exact hk.2.2.2 | exact hk.1.1.1.1 | exact hk.1.1.1.2 | exact hk.1.1.2.1 | exact hk.1.1.2.2 | exact hk.1.2.1.1 | exact hk.1.2.1.2 | exact hk.1.2.2.1 | exact hk.1.2.2.2 | exact hk.2.1.1.1 | exact hk.2.1.1.2 | exact hk.2.1.2.1 | exact hk.2.1.2.2 | exact hk.2.2.1.1 | exact hk.2.2.1.2 | exact hk.2.2.2.1 | exact hk.2.2.2.2 | constructor)))) hg (.inl rfl)); have n6_ := AM (Kd.V_afterv (v := (.slice (some ⟨go44, 0, none⟩) x7_3.length co57)) (v1 := (.slice (some ⟨go44, 0, none⟩) x7_3.length co57)) (ok := (fun k_ => (w.heap.size ≤ k_) ∧ some k_ ≠ (.slice (some ⟨go40, 0, none⟩) x5_3.length co52 : Value).ownBlock ∧ some k_ ≠ (.slice Ao69 t428.length co69 : Value).ownBlock)) (by exact Kd.V_mono HL419_0.out (fun _ hk => by first | exact ⟨⟨hk.1.1.1, ⟨hk.1.2, hk.2⟩⟩, hk.1.1.2.1⟩ | (repeat' (first | exact hk.1 | exact hk.2 | exact hk.1.1 | exact hk.1.2 | exact hk.2.1 | exact hk.2.2 | exact hk.1.1.1 | exact hk.1.1.2 | exact hk.1.2.1 | exact hk.1.2.2 | exact hk.2.1.1 | exact hk.2.1.2 | exact hk.2.2.1 | exact hk.2.2.2 | exact hk.1.1.1.1 | exact hk.1.1.1.2 | exact hk.1.1.2.1 | exact hk.1.1.2.2 | exact hk.1.2.1.1 | exact hk.1.2.1.2 | exact hk.1.2.2.1 | exact hk.1.2.2.2 | exact hk.2.1.1.1 | exact hk.2.1.1.2 | exact hk.2.1.2.1 | exact hk.2.1.2.2 | exact hk.2.2.1.1 | exact hk.2.2.1.2 | exact hk.2.2.2.1 | exact hk.2.2.2.2 | constructor)))) hg (.inl rfl)); have n7_ := AM (Kd.V_afterv (v := (.slice (some ⟨go44, 0, none⟩) x7_3.length co57)) (v1 := (.slice (some ⟨go44, 0, none⟩) x7_3.length co57)) (ok := (fun k_ => (w.heap.size ≤ k_) ∧ some k_ ≠ (.slice (some ⟨go40, 0, none⟩) x5_3.length co52 : Value).ownBlock ∧ some k_ ≠ (.slice Ao69 t428.length co69 : Value).ownBlock)) (by exact Kd.V_mono HL422_0.out (fun _ hk => by first | exact ⟨⟨hk.1.1.1, ⟨hk.1.2, hk.2⟩⟩, hk.1.1.2.1⟩ | (repeat' (first | exact hk.1 | exact hk.2 | exact hk.1.1 | exact hk.1.2 | exact hk.2.1 | exact hk.2.2 | exact hk.1.1.1 | exact hk.1.1.2 | exact hk.1.2.1 | exact hk.1.2.2 | exact hk.2.1.1 | exact hk.2.1.2 | exact hk.2.2.1 | exact hk.2.2.2 | exact hk.1.1.1.1 | exact hk.1.1.1.2 | exact hk.1.1.2.1 | exact hk.1.1.2.2 | exact hk.1.2.1.1 | exact hk.1.2.1.2 | exact hk.1.2.2.1 | exact hk.1.2.2.2 | exact hk.2.1.1.1 | exact hk.2.1.1.2 | exact hk.2.1.2.1 | exact hk.2.1.2.2 | exact hk.2.2.1.1 | exact hk.2.2.1.2 | exact hk.2.2.2.1 | exact hk.2.2.2.2 | constructor)))) hg (.inl rfl)); have n8_ := AM (Kd.V_afterv (v := (.slice (some ⟨go44, 0, none⟩) x7_3.length co57)) (v1 := (.slice (some ⟨go44, 0, none⟩) x7_3.length co57)) (ok := (fun k_ => (w.heap.size ≤ k_) ∧ some k_ ≠ (.slice (some ⟨go40, 0, none⟩) x5_3.length co52 : Value).ownBlock ∧ some k_ ≠ (.slice Ao69 t428.length co69 : Value).ownBlock)) (by exact Kd.V_mono HL427_0.out (fun _ hk => by first | exact ⟨⟨hk.1.1.1.1, ⟨hk.1.1.2, hk.2⟩⟩, hk.1.2⟩ | (repeat' (first | exact hk.1 | exact hk.2 | exact hk.1.1 | exact hk.1.2 | exact hk.2.1 | exact hk.2.2 | exact hk.1.1.1 | exact hk.1.1.2 | exact hk.1.2.1 | exact hk.1.2.2 | exact hk.2.1.1 | exact hk.2.1.2 | exact hk.2.2.1 | exact hk.2.2.2 | exact hk.1.1.1.1 | exact hk.1.1.1.2 | exact hk.1.1.2.1 | exact hk.1.1.2.2 | exact hk.1.2.1.1 | exact hk.1.2.1.2 | exact hk.1.2.2.1 | exact hk.1.2.2.2 | exact hk.2.1.1.1 | exact hk.2.1.1.2 | exact hk.2.1.2.1 | exact hk.2.1.2.2 | exact hk.2.2.1.1 | exact hk.2.2.1.2 | exact hk.2.2.2.1 | exact hk.2.2.2.2 | constructor)))) hg (.inl rfl)); have n9_ := AM ((by rw [hw]; exact below_set (HB.out) GB44.out : Below w.heap.size w w68)); clear HO_5; clear HO_7; clear HL411_0; clear HL412_0; clear HL415_0; clear HL416_0; clear HL419_0; clear HL422_0; clear HL427_0; clear HB; clear HO430; have HO_5 := n0_; have HO_7 := n1_; have HL411_0 := n2_; have HL412_0 := n3_; have HL415_0 := n4_; have HL416_0 := n5_; have HL419_0 := n6_; have HL422_0 := n7_; have HL427_0 := n8_; have HB := n9_; clear n0_ n1_ n2_ n3_ n4_ n5_ n6_ n7_ n8_ n9_; clear hg hw hp_))
               go_loopg [13] kj23 (fun kq v13 w' => ∃ (x5_5 : List (List Int)) (x7_5 : List (List Int)) (x13_5 : Int), v13 = .int .i64 x13_5 ∧ Aside0 (spec_InvM.l3 kq (l0.length : Int) x5_5 x7_5 x8_3 x13_5 = some (r1, r2)) ∧ Aside0 (kq ≤ kj23) ∧ Aside0 (Kd.N (Kd.slice 3 (Kd.int .i64)) 32 w' w.heap.size (fun k_ => (w.heap.size ≤ k_) ∧ some k_ ≠ ((.slice (some ⟨go44, 0, none⟩) x7_3.length co57) : Value).ownBlock) (.slice (some ⟨go40, 0, none⟩) x5_3.length co52) x5_5) ∧ Aside0 (Kd.N (Kd.slice 3 (Kd.int .i64)) 32 w' w.heap.size (fun k_ => (w.heap.size ≤ k_) ∧ some k_ ≠ ((.slice (some ⟨go40, 0, none⟩) x5_3.length co52) : Value).ownBlock) (.slice (some ⟨go44, 0, none⟩) x7_3.length co57) x7_5) ∧ Aside0 (Below w.heap.size w w'))
               case atStart => exact ⟨(y426), (y431), (0), (by first | rfl | (simp; done) | (simp [*]; done)), H', ⟨Nat.le_refl _⟩, ⟨by exact Kd.N_mono HO_5.out (fun _ hk => ⟨hk.1.1, hk.2⟩)⟩, ⟨by exact HO_7.out⟩, ⟨by repeat (first | exact HB.out | apply bA | apply bN | apply bD)⟩⟩
               clear H'
               obtain ⟨x5_5, x7_5, x13_5, rfl, HA, HK5, HO_5, HO_7, HB⟩ := hrel
               have hl5_5 := (Kd.N_reads' HO_5.out).1
               rw [hl5_5] at HO_5
               (try simp only [hl5_5])
               (try simp only [hl5_5] at HO_7)
               have hl7_5 := (Kd.N_reads' HO_7.out).1
               rw [hl7_5] at HO_7
               (try simp only [hl7_5])
               (try simp only [hl7_5] at HO_5)
               cases gk with
               | zero => exact absurd HA.out (by simp [spec_InvM.l3])
               | succ k5 =>
                have H := HA.out
                clear HA
                simp only [spec_InvM.l3] at H
                by_cases c70 : x13_5 < (l0.length : Int)
                ·rw [if_pos c70] at H
                 have c70b0 : decide (x13_5 < (l0.length : Int)) = true := decide_eq_true c70
                 clear c70
                 have HC71 := AM H
                 clear H
                 go_upto_region 30 with (fail)
                 go_cut [145] (fun v145 wc => ∃ (kq : Nat) (x145_70 : Bool), v145 = .bool x145_70 ∧ Aside0 (spec_InvM.j6 kq (l0.length : Int) x5_5 x7_5 x8_3 x13_5 x145_70 = some (r1, r2)) ∧ Aside0 (kq ≤ k5) ∧ Aside0 (Kd.N (Kd.slice 3 (Kd.int .i64)) 32 wc w.heap.size (fun k_ => (w.heap.size ≤ k_) ∧ some k_ ≠ ((.slice (some ⟨go44, 0, none⟩) x7_5.length co57) : Value).ownBlock) (.slice (some ⟨go40, 0, none⟩) x5_5.length co52) x5_5) ∧ Aside0 (Kd.N (Kd.slice 3 (Kd.int .i64)) 32 wc w.heap.size (fun k_ => (w.heap.size ≤ k_) ∧ some k_ ≠ ((.slice (some ⟨go40, 0, none⟩) x5_5.length co52) : Value).ownBlock) (.slice (some ⟨go44, 0, none⟩) x7_5.length co57) x7_5) ∧ Aside0 (Below w.heap.size w wc))
                 case first =>
                  have H := HC71.out
                  clear HC71
                  by_cases c72 : x13_5 = x8_3
                  ·rw [if_pos c72] at H
                   have c72b0 : (x13_5 == x8_3) = true := beq_iff_eq.mpr c72
                   have c72b1 : (x13_5 != x8_3) = false := bne_eq_false_iff_eq.mpr c72
                   clear c72
                   (first | rw [c72b0] | (simp only [i64_w, i32_w]; rw [c72b0]) | rw [c72b1] | skip)
                   have H' := AM H
                   clear H
                   go_wp2
                   go_meet
                   case rel => exact ⟨_, (false), (by first | rfl | (simp; done) | (simp [*]; done)), H', ⟨by have := HJ1.out; have := HK2.out; have := HK3.out; have := HJ23.out; have := HK5.out; first | omega | exact Nat.le_refl _⟩, ⟨by (try simp only [hl5_5]); (try simp only [hl7_5]); exact HO_5.out⟩, ⟨by (try simp only [hl5_5]); (try simp only [hl7_5]); exact HO_7.out⟩, ⟨by repeat (first | exact HB.out | apply bA | apply bN | apply bD)⟩⟩
                  rw [if_neg c72] at H
                  have c72b0 : (x13_5 == x8_3) = false := beq_eq_false_iff_ne.mpr c72
                  have c72b1 : (x13_5 != x8_3) = true := bne_iff_ne.mpr c72
                  (first | rw [c72b0] | (simp only [i64_w, i32_w]; rw [c72b0]) | rw [c72b1] | skip)
                  by_cases c73 : 0 ≤ x13_5
                  ·rw [if_pos c73] at H
                   have c73b0 : decide (0 ≤ x13_5) = true := decide_eq_true c73
                   clear c73
                   by_cases c74 : x13_5 < (x5_5.length : Int)
                   ·rw [if_pos c74] at H
                    have c74b0 : decide (x13_5 < (x5_5.length : Int)) = true := decide_eq_true c74
                    clear c74
                    by_cases c75 : 0 ≤ x8_3
                    ·rw [if_pos c75] at H
                     have c75b0 : decide (0 ≤ x8_3) = true := decide_eq_true c75
                     clear c75
                     by_cases c76 : x8_3 < ((rd_L2 x5_5 x13_5).length : Int)
                     ·rw [if_pos c76] at H
                      have c76b0 : decide (x8_3 < ((rd_L2 x5_5 x13_5).length : Int)) = true := decide_eq_true c76
                      clear c76
                      have H' := AM H
                      clear H
                      have p432 : 0 ≤ (x13_5 : Int) := od
                      have q432 : x13_5 < (x5_5.length : Int) := od
                      obtain ⟨ad432, A432_0, c432_0, e432, hx432_0, hl432_0, hi432_0⟩ := at_L2 (Kd.N_reads' HO_5.out).2.2 x13_5 p432 q432
                      obtain rfl : (⟨go40, 0, none⟩ : Addr) = ad432 := (by injection e432)
                      obtain ⟨ce432, hce432, hMe432, hcc432⟩ := Kd.N_get HO_5.out [] x13_5 p432 (by first | exact q432 | exact od | (have e_ := (Kd.N_reads' HO_5.out).1; omega))
                      obtain ⟨ua432_0, uc432_0, rfl, ul432_0, ge432_0⟩ := Kd.FK_slice_open hMe432
                      have hv432_0 := hcc432 0 _ rfl
                      rw [Nat.add_zero, show ((Kd.slice 3 (Kd.int .i64))).sz = 1 from rfl, Nat.mul_one] at hv432_0
                      replace hv432_0 := Option.some.inj (hv432_0.symm.trans hx432_0)
                      injection hv432_0 with hva_ hvn_ hvc_
                      rw [hva_] at ge432_0
                      rw [hvc_] at ul432_0
                      have HL432_0 := AM (show Kd.V (Kd.int .i64) 3 _ w.heap.size _ _ (rd_L2 x5_5 x13_5) from Kd.V_mk ul432_0 ge432_0)
                      clear hva_ hvn_ hvc_ ge432_0 ul432_0
                      clear hcc432 hce432
                      (first | simp only [add_plain] at hx432_0 | simp only [add_at] at hx432_0 | simp only [Addr.add, Nat.zero_add] at hx432_0 | skip)
                      have HR432_0 := AM hi432_0
                      have HC432_0 := AM hl432_0
                      clear hi432_0 hl432_0
                      replace p432 := eq_true p432
                      replace q432 := eq_true q432
                      have p433 : 0 ≤ (x8_3 : Int) := od
                      have q433 : x8_3 < ((rd_L2 x5_5 x13_5).length : Int) := od
                      obtain ⟨ad433, e433, hx433_0⟩ := Kd.at_int (by repeat (first | (with_reducible exact HR432_0.out) | (with_reducible refine Kd.C_alloc ?_ _) | (with_reducible refine Kd.C_drewN ?_ _) | (with_reducible refine Kd.C_drew ?_) | exact HR432_0.out)) x8_3 p433 q433
                      cases e433
                      replace p433 := eq_true p433
                      replace q433 := eq_true q433
                      go_wp2
                      go_meet
                      case rel => exact ⟨_, (((rd (rd_L2 x5_5 x13_5) x8_3) != 0)), (by first | rfl | (simp; done) | (simp [*]; done)), H', ⟨by have := HJ1.out; have := HK2.out; have := HK3.out; have := HJ23.out; have := HK5.out; first | omega | exact Nat.le_refl _⟩, ⟨by (try simp only [hl5_5]); (try simp only [hl7_5]); exact HO_5.out⟩, ⟨by (try simp only [hl5_5]); (try simp only [hl7_5]); exact HO_7.out⟩, ⟨by repeat (first | exact HB.out | apply bA | apply bN | apply bD)⟩⟩
                     rw [if_neg c76] at H
                     exact absurd H (by simp)
                    rw [if_neg c75] at H
                    exact absurd H (by simp)
                   rw [if_neg c74] at H
                   exact absurd H (by simp)
                  rw [if_neg c73] at H
                  exact absurd H (by simp)
                 case rest =>
                  clear HC71
                  obtain ⟨kq, x145_70, rfl, HA, HJ70, HO_5, HO_7, HB⟩ := hcut
                  cases kq with
                  | zero => exact absurd HA.out (by simp [spec_InvM.j6])
                  | succ kj70 =>
                   have H := HA.out
                   clear HA
                   simp only [spec_InvM.j6] at H
                   by_cases c77 : x145_70 = true
                   ·subst c77
                    have H1 : (if 0 ≤ x13_5 then (if x13_5 < (x5_5.length : Int) then (if 0 ≤ x8_3 then (if x8_3 < ((rd_L2 x5_5 x13_5).length : Int) then (if x8_3 < (x5_5.length : Int) then ((spec_l06Row.f kj70 (rd_L2 x5_5 x13_5) (rd_L2 x5_5 x8_3) (rd (rd_L2 x5_5 x13_5) x8_3)).bind fun t438 => (if x13_5 < (x7_5.length : Int) then (if x8_3 < (x7_5.length : Int) then ((spec_l06Row.f kj70 (rd_L2 x7_5 x13_5) (rd_L2 x7_5 x8_3) (rd (rd_L2 x5_5 x13_5) x8_3)).bind fun t444 => (spec_InvM.l3 kj70 (l0.length : Int) (x5_5.set (x13_5 : Int).toNat t438) (x7_5.set (x13_5 : Int).toNat t444) x8_3 (wrap64 (x13_5 + 1)))) else (none)) else (none))) else (none)) else (none)) else (none)) else (none)) else (none)) = some (r1, r2) := by rw [if_pos rfl] at H; exact H
                    clear H
                    have H := H1
                    clear H1
                    by_cases c78 : 0 ≤ x13_5
                    ·rw [if_pos c78] at H
                     have c78b0 : decide (0 ≤ x13_5) = true := decide_eq_true c78
                     clear c78
                     by_cases c79 : x13_5 < (x5_5.length : Int)
                     ·rw [if_pos c79] at H
                      have c79b0 : decide (x13_5 < (x5_5.length : Int)) = true := decide_eq_true c79
                      clear c79
                      by_cases c80 : 0 ≤ x8_3
                      ·rw [if_pos c80] at H
                       have c80b0 : decide (0 ≤ x8_3) = true := decide_eq_true c80
                       clear c80
                       by_cases c81 : x8_3 < ((rd_L2 x5_5 x13_5).length : Int)
                       ·rw [if_pos c81] at H
                        have c81b0 : decide (x8_3 < ((rd_L2 x5_5 x13_5).length : Int)) = true := decide_eq_true c81
                        clear c81
                        by_cases c82 : x8_3 < (x5_5.length : Int)
                        ·rw [if_pos c82] at H
                         have c82b0 : decide (x8_3 < (x5_5.length : Int)) = true := decide_eq_true c82
                         clear c82
                         replace H := bm H
                         obtain ⟨t438, A830, H⟩ := H
                         replace H : (if x13_5 < (x7_5.length : Int) then (if x8_3 < (x7_5.length : Int) then ((spec_l06Row.f kj70 (rd_L2 x7_5 x13_5) (rd_L2 x7_5 x8_3) (rd (rd_L2 x5_5 x13_5) x8_3)).bind fun t444 => (spec_InvM.l3 kj70 (l0.length : Int) (x5_5.set (x13_5 : Int).toNat t438) (x7_5.set (x13_5 : Int).toNat t444) x8_3 (wrap64 (x13_5 + 1)))) else (none)) else (none)) = some (r1, r2) := H
                         have A83 := AM A830
                         clear A830
                         obtain ⟨y441, hy441⟩ : ∃ y_ : List (List Int), y_ = (x5_5.set (x13_5 : Int).toNat t438) := ⟨_, rfl⟩
                         replace H : (if x13_5 < (x7_5.length : Int) then (if x8_3 < (x7_5.length : Int) then ((spec_l06Row.f kj70 (rd_L2 x7_5 x13_5) (rd_L2 x7_5 x8_3) (rd (rd_L2 x5_5 x13_5) x8_3)).bind fun t444 => (spec_InvM.l3 kj70 (l0.length : Int) y441 (x7_5.set (x13_5 : Int).toNat t444) x8_3 (wrap64 (x13_5 + 1)))) else (none)) else (none)) = some (r1, r2) := by first | (rw [hy441]; with_reducible exact H) | (have H2_ := (Option.bind_some _ _).symm.trans H; rw [hy441]; with_reducible exact H2_) | (have H2_ := (Option.bind_some _ _).symm.trans H; with_reducible exact H2_) | with_reducible exact H | (rw [hy441]; exact H) | exact H
                         have Ny441 := AM hy441
                         clear hy441
                         by_cases c85 : x13_5 < (x7_5.length : Int)
                         ·rw [if_pos c85] at H
                          have c85b0 : decide (x13_5 < (x7_5.length : Int)) = true := decide_eq_true c85
                          clear c85
                          by_cases c86 : x8_3 < (x7_5.length : Int)
                          ·rw [if_pos c86] at H
                           have c86b0 : decide (x8_3 < (x7_5.length : Int)) = true := decide_eq_true c86
                           clear c86
                           replace H := bm H
                           obtain ⟨t444, A870, H⟩ := H
                           replace H : (spec_InvM.l3 kj70 (l0.length : Int) y441 (x7_5.set (x13_5 : Int).toNat t444) x8_3 (wrap64 (x13_5 + 1))) = some (r1, r2) := H
                           have A87 := AM A870
                           clear A870
                           obtain ⟨y447, hy447⟩ : ∃ y_ : List (List Int), y_ = (x7_5.set (x13_5 : Int).toNat t444) := ⟨_, rfl⟩
                           replace H : (spec_InvM.l3 kj70 (l0.length : Int) y441 y447 x8_3 (wrap64 (x13_5 + 1))) = some (r1, r2) := by first | (rw [hy447]; with_reducible exact H) | (have H2_ := (Option.bind_some _ _).symm.trans H; rw [hy447]; with_reducible exact H2_) | (have H2_ := (Option.bind_some _ _).symm.trans H; with_reducible exact H2_) | with_reducible exact H | (rw [hy447]; exact H) | exact H
                           have Ny447 := AM hy447
                           clear hy447
                           have H' := AM H
                           clear H
                           have p434 : 0 ≤ (x13_5 : Int) := od
                           have q434 : x13_5 < (x5_5.length : Int) := od
                           obtain ⟨ad434, A434_0, c434_0, e434, hx434_0, hl434_0, hi434_0⟩ := at_L2 (Kd.N_reads' HO_5.out).2.2 x13_5 p434 q434
                           obtain rfl : (⟨go40, 0, none⟩ : Addr) = ad434 := (by injection e434)
                           obtain ⟨ce434, hce434, hMe434, hcc434⟩ := Kd.N_get HO_5.out [] x13_5 p434 (by first | exact q434 | exact od | (have e_ := (Kd.N_reads' HO_5.out).1; omega))
                           obtain ⟨ua434_0, uc434_0, rfl, ul434_0, ge434_0⟩ := Kd.FK_slice_open hMe434
                           have hv434_0 := hcc434 0 _ rfl
                           rw [Nat.add_zero, show ((Kd.slice 3 (Kd.int .i64))).sz = 1 from rfl, Nat.mul_one] at hv434_0
                           replace hv434_0 := Option.some.inj (hv434_0.symm.trans hx434_0)
                           injection hv434_0 with hva_ hvn_ hvc_
                           rw [hva_] at ge434_0
                           rw [hvc_] at ul434_0
                           have HL434_0 := AM (show Kd.V (Kd.int .i64) 3 _ w.heap.size _ _ (rd_L2 x5_5 x13_5) from Kd.V_mk ul434_0 ge434_0)
                           clear hva_ hvn_ hvc_ ge434_0 ul434_0
                           clear hcc434 hce434
                           (first | simp only [add_plain] at hx434_0 | simp only [add_at] at hx434_0 | simp only [Addr.add, Nat.zero_add] at hx434_0 | skip)
                           have HR434_0 := AM hi434_0
                           have HC434_0 := AM hl434_0
                           clear hi434_0 hl434_0
                           replace p434 := eq_true p434
                           replace q434 := eq_true q434
                           have p435 : 0 ≤ (x8_3 : Int) := od
                           have q435 : x8_3 < ((rd_L2 x5_5 x13_5).length : Int) := od
                           obtain ⟨ad435, e435, hx435_0⟩ := Kd.at_int (by repeat (first | (with_reducible exact HR434_0.out) | (with_reducible refine Kd.C_alloc ?_ _) | (with_reducible refine Kd.C_drewN ?_ _) | (with_reducible refine Kd.C_drew ?_) | exact HR434_0.out)) x8_3 p435 q435
                           cases e435
                           replace p435 := eq_true p435
                           replace q435 := eq_true q435
                           try go_wp2
                           have n0_ := AM (Kd.N_drew HO_5.out)
                           have n1_ := AM (Kd.N_drew HO_7.out)
                           have n2_ := AM (Kd.V_drew HL434_0.out)
                           have n3_ := AM (Kd.C_drew HR434_0.out)
                           have n4_ := AM (below_drew1 HB.out)
                           clear HO_5
                           clear HO_7
                           clear HL434_0
                           clear HR434_0
                           clear HB
                           have HO_5 := n0_
                           have HO_7 := n1_
                           have HL434_0 := n2_
                           have HR434_0 := n3_
                           have HB := n4_
                           clear n0_ n1_ n2_ n3_ n4_
                           have p436 : 0 ≤ (x13_5 : Int) := od
                           have q436 : x13_5 < (x5_5.length : Int) := od
                           obtain ⟨ad436, A436_0, c436_0, e436, hx436_0, hl436_0, hi436_0⟩ := at_L2 (Kd.N_reads' HO_5.out).2.2 x13_5 p436 q436
                           obtain rfl : (⟨go40, 0, none⟩ : Addr) = ad436 := (by injection e436)
                           obtain ⟨ce436, hce436, hMe436, hcc436⟩ := Kd.N_get HO_5.out [] x13_5 p436 (by first | exact q436 | exact od | (have e_ := (Kd.N_reads' HO_5.out).1; omega))
                           obtain ⟨ua436_0, uc436_0, rfl, ul436_0, ge436_0⟩ := Kd.FK_slice_open hMe436
                           have hv436_0 := hcc436 0 _ rfl
                           rw [Nat.add_zero, show ((Kd.slice 3 (Kd.int .i64))).sz = 1 from rfl, Nat.mul_one] at hv436_0
                           replace hv436_0 := Option.some.inj (hv436_0.symm.trans hx436_0)
                           injection hv436_0 with hva_ hvn_ hvc_
                           rw [hva_] at ge436_0
                           rw [hvc_] at ul436_0
                           have HL436_0 := AM (show Kd.V (Kd.int .i64) 3 _ w.heap.size _ _ (rd_L2 x5_5 x13_5) from Kd.V_mk ul436_0 ge436_0)
                           clear hva_ hvn_ hvc_ ge436_0 ul436_0
                           clear hcc436 hce436
                           (first | simp only [add_plain] at hx436_0 | simp only [add_at] at hx436_0 | simp only [Addr.add, Nat.zero_add] at hx436_0 | skip)
                           have HR436_0 := AM hi436_0
                           have HC436_0 := AM hl436_0
                           clear hi436_0 hl436_0
                           replace p436 := eq_true p436
                           replace q436 := eq_true q436
                           have p437 : 0 ≤ (x8_3 : Int) := od
                           have q437 : x8_3 < (x5_5.length : Int) := od
                           obtain ⟨ad437, A437_0, c437_0, e437, hx437_0, hl437_0, hi437_0⟩ := at_L2 (Kd.N_reads' HO_5.out).2.2 x8_3 p437 q437
                           obtain rfl : (⟨go40, 0, none⟩ : Addr) = ad437 := (by injection e437)
                           obtain ⟨ce437, hce437, hMe437, hcc437⟩ := Kd.N_get HO_5.out [] x8_3 p437 (by first | exact q437 | exact od | (have e_ := (Kd.N_reads' HO_5.out).1; omega))
                           obtain ⟨ua437_0, uc437_0, rfl, ul437_0, ge437_0⟩ := Kd.FK_slice_open hMe437
                           have hv437_0 := hcc437 0 _ rfl
                           rw [Nat.add_zero, show ((Kd.slice 3 (Kd.int .i64))).sz = 1 from rfl, Nat.mul_one] at hv437_0
                           replace hv437_0 := Option.some.inj (hv437_0.symm.trans hx437_0)
                           injection hv437_0 with hva_ hvn_ hvc_
                           rw [hva_] at ge437_0
                           rw [hvc_] at ul437_0
                           have HL437_0 := AM (show Kd.V (Kd.int .i64) 3 _ w.heap.size _ _ (rd_L2 x5_5 x8_3) from Kd.V_mk ul437_0 ge437_0)
                           clear hva_ hvn_ hvc_ ge437_0 ul437_0
                           clear hcc437 hce437
                           (first | simp only [add_plain] at hx437_0 | simp only [add_at] at hx437_0 | simp only [Addr.add, Nat.zero_add] at hx437_0 | skip)
                           have HR437_0 := AM hi437_0
                           have HC437_0 := AM hl437_0
                           clear hi437_0 hl437_0
                           replace p437 := eq_true p437
                           replace q437 := eq_true q437
                           refine start_ (n := 14) (S := fun w' => w'.cell? ⟨go40, (x13_5).toNat, none⟩ = some (.slice A436_0 (rd_L2 x5_5 x13_5).length c436_0) ∧ w'.cell? ⟨go40, (x8_3).toNat, none⟩ = some (.slice A437_0 (rd_L2 x5_5 x8_3).length c437_0)) (ds := [13]) #[false, false, false, false, false, false, false, false, false, false, false, false, false, false] (by kernel_rfl) rfl rfl ⟨hx436_0, hx437_0⟩ (fun hHeld => ?_); refine with_tabW spec_InvM.tab32 spec_InvM.bits32 (fun HT_ HW_ => ?_)
                           generalize wc.drew = w89 at HO_5 HO_7 HL434_0 HR434_0 HB HL436_0 HL437_0 HR436_0 HR437_0 hx436_0 hx437_0 hHeld ⊢
                           refine pure_ (i := 0) (N := some 153) (v := ?_) (a' := ?_) #[true, false, false, false, false, false, false, false, false, false, false, false, false, false] rfl rfl (any_of HT_.out (by kernel_rfl)) (fun _ _ _ h => h) (Or.inl ⟨by rfl, ?_⟩) ?_ ?_
                           rotate_left
                           ·intro w'
                            go_simp
                            with_reducible rfl
                           rotate_left
                           ·simp only [Act.put, qT, q0, qS, i64_w, i32_w]
                            rfl
                           refine pure_ (i := 1) (N := some 154) (v := ?_) (a' := ?_) #[true, true, false, false, false, false, false, false, false, false, false, false, false, false] rfl rfl (any_of HT_.out (by kernel_rfl)) (fun _ _ _ h => h) (Or.inl ⟨by rfl, ?_⟩) ?_ ?_
                           rotate_left
                           ·intro w'
                            go_simp
                            with_reducible rfl
                           rotate_left
                           ·simp only [Act.put, qT, q0, qS, i64_w, i32_w]
                            rfl
                           refine pure_ (i := 2) (N := some 155) (v := ?_) (a' := ?_) #[true, true, true, false, false, false, false, false, false, false, false, false, false, false] rfl rfl (any_of HT_.out (by kernel_rfl)) (fun _ _ _ h => h) (Or.inl ⟨by rfl, ?_⟩) ?_ ?_
                           rotate_left
                           ·intro w'
                            go_simp
                            with_reducible rfl
                           rotate_left
                           ·simp only [Act.put, qT, q0, qS, i64_w, i32_w]
                            rfl
                           refine pure_ (i := 3) (N := some 156) (v := ?_) (a' := ?_) #[true, true, true, true, false, false, false, false, false, false, false, false, false, false] rfl rfl (any_of HT_.out (by kernel_rfl)) (fun _ _ _ h => h) (Or.inl ⟨by rfl, ?_⟩) ?_ ?_
                           rotate_left
                           ·intro w'
                            go_simp
                            with_reducible rfl
                           rotate_left
                           ·simp only [Act.put, qT, q0, qS, i64_w, i32_w]
                            rfl
                           refine pure_ (i := 4) (N := some 157) (v := ?_) (a' := ?_) #[true, true, true, true, true, false, false, false, false, false, false, false, false, false] rfl rfl (any_of HT_.out (by kernel_rfl)) (fun _ _ _ h => h) (Or.inl ⟨by rfl, ?_⟩) ?_ ?_
                           rotate_left
                           ·intro w'
                            go_simp
                            with_reducible rfl
                           rotate_left
                           ·simp only [Act.put, qT, q0, qS, i64_w, i32_w]
                            rfl
                           refine pure_ (i := 6) (N := some 159) (v := ?_) (a' := ?_) #[true, true, true, true, true, false, true, false, false, false, false, false, false, false] rfl rfl (any_of HT_.out (by kernel_rfl)) (fun _ _ _ h => h) (Or.inl ⟨by rfl, ?_⟩) ?_ ?_
                           rotate_left
                           ·intro w'
                            go_simp
                            with_reducible rfl
                           rotate_left
                           ·simp only [Act.put, qT, q0, qS, i64_w, i32_w]
                            rfl
                           refine pure_ (i := 7) (N := some 160) (v := ?_) (a' := ?_) #[true, true, true, true, true, false, true, true, false, false, false, false, false, false] rfl rfl (any_of HT_.out (by kernel_rfl)) (fun _ _ _ h => h) (Or.inl ⟨by rfl, ?_⟩) ?_ ?_
                           rotate_left
                           ·intro w'
                            go_simp
                            with_reducible rfl
                           rotate_left
                           ·simp only [Act.put, qT, q0, qS, i64_w, i32_w]
                            rfl
                           refine pure_ (i := 8) (N := some 161) (v := ?_) (a' := ?_) #[true, true, true, true, true, false, true, true, true, false, false, false, false, false] rfl rfl (any_of HT_.out (by kernel_rfl)) (fun _ _ _ h => h) (Or.inl ⟨by rfl, ?_⟩) ?_ ?_
                           rotate_left
                           ·intro w'
                            go_simp
                            with_reducible rfl
                           rotate_left
                           ·simp only [Act.put, qT, q0, qS, i64_w, i32_w]
                            rfl
                           refine pure_ (i := 10) (N := some 163) (v := ?_) (a' := ?_) #[true, true, true, true, true, false, true, true, true, false, true, false, false, false] rfl rfl (any_of HT_.out (by kernel_rfl)) (fun _ _ _ h => h) (Or.inl ⟨by rfl, ?_⟩) ?_ ?_
                           rotate_left
                           ·intro w'
                            go_simp
                            with_reducible rfl
                           rotate_left
                           ·simp only [Act.put, qT, q0, qS, i64_w, i32_w]
                            rfl
                           refine take_ (i := 5) (N := some 158) (v := ?_) (a' := ?_) #[true, true, true, true, true, true, true, true, true, false, true, false, false, false] rfl rfl (take_ofW HT_.out HW_.out (by kernel_rfl)) (fun _ _ _ h => h) (Or.inl ⟨by rfl, ?_⟩) hHeld ?_ ?_
                           rotate_left
                           ·rintro w' ⟨s0, s1⟩
                            go_simp
                            with_reducible rfl
                           rotate_left
                           ·simp only [Act.put, qT, q0, qS, i64_w, i32_w]
                            rfl
                           refine take_ (i := 9) (N := some 162) (v := ?_) (a' := ?_) #[true, true, true, true, true, true, true, true, true, true, true, false, false, false] rfl rfl (take_ofW HT_.out HW_.out (by kernel_rfl)) (fun _ _ _ h => h) (Or.inl ⟨by rfl, ?_⟩) hHeld ?_ ?_
                           rotate_left
                           ·rintro w' ⟨s0, s1⟩
                            go_simp
                            with_reducible rfl
                           rotate_left
                           ·simp only [Act.put, qT, q0, qS, i64_w, i32_w]
                            rfl
                           refine one_ (i := 11) (N := some 164) #[true, true, true, true, true, true, true, true, true, true, true, true, false, false] rfl rfl (one_of HT_.out (by kernel_rfl)) (by decide) (fun K hK => ?_)
                           refine goes_ Try.func59 (by kernel_rfl) rfl #[.slice A436_0 (rd_L2 x5_5 x13_5).length c436_0, .slice A437_0 (rd_L2 x5_5 x8_3).length c437_0, .int .i64 (rd (rd_L2 x5_5 x13_5) x8_3)] (by rfl) rfl rfl (by (try simp only [List.map_toArray, List.map_cons, List.map_nil]); first | done | rfl) ?_
                           with_reducible refine (spec_l06Row.calls kj70 _ _ (rd_L2 x5_5 x13_5) _ _ (rd_L2 x5_5 x8_3) (rd (rd_L2 x5_5 x13_5) x8_3) t438 _ ?side1 ?side2 ?side3 ?side4 A83.out).mono ?_
                           (case side1 => repeat (first | exact (by repeat (first | (with_reducible exact HR436_0.out) | (with_reducible refine Kd.C_alloc ?_ _) | (with_reducible refine Kd.C_drewN ?_ _) | (with_reducible refine Kd.C_drew ?_) | exact HR436_0.out)) | (with_reducible refine Kd.C_alloc ?_ _) | (with_reducible refine Kd.C_drewN ?_ _) | (with_reducible refine Kd.C_drew ?_)))
                           (case side2 => exact HC436_0.out)
                           (case side3 => repeat (first | exact (by repeat (first | (with_reducible exact HR437_0.out) | (with_reducible refine Kd.C_alloc ?_ _) | (with_reducible refine Kd.C_drewN ?_ _) | (with_reducible refine Kd.C_drew ?_) | exact HR437_0.out)) | (with_reducible refine Kd.C_alloc ?_ _) | (with_reducible refine Kd.C_drewN ?_ _) | (with_reducible refine Kd.C_drew ?_)))
                           (case side4 => exact HC437_0.out)
                           rintro e w90 ⟨v439, rfl, ho0, hb⟩
                           have HS0_ := (hb.cell (World.block_lt_of_cell? _ _ (hHeld.1))).trans (hHeld.1)
                           have HS1_ := (hb.cell (World.block_lt_of_cell? _ _ (hHeld.2))).trans (hHeld.2)
                           refine ⟨_, rfl, ?_⟩
                           have n0_ := AM (Kd.N_elder' (by exact HO_5.out) (Kd.R_base ho0) hb)
                           have n1_ := AM (Kd.N_elder' (by exact HO_7.out) (Kd.R_base ho0) hb)
                           have n2_ := AM (Kd.V_elder' (by exact HL434_0.out) (Kd.R_base ho0) hb)
                           have n3_ := AM (Kd.V_elder' (by exact HL436_0.out) (Kd.R_base ho0) hb)
                           have n4_ := AM (Kd.V_elder' (by exact HL437_0.out) (Kd.R_base ho0) hb)
                           have n5_ := AM (Kd.R_lower (Kd.R_newM (M := fun k_ => (w.heap.size ≤ k_)) ho0 (below_size (by repeat (first | exact HB.out | apply bA | apply bN | apply bD))) (fun k_ h_ => h_)) (below_size (by repeat (first | exact HB.out | apply bA | apply bN | apply bD))))
                           have n6_ := AM (Kd.C_below (by repeat (first | (with_reducible exact HR434_0.out) | (with_reducible refine Kd.C_alloc ?_ _) | (with_reducible refine Kd.C_drewN ?_ _) | (with_reducible refine Kd.C_drew ?_) | exact HR434_0.out)) hb)
                           have n7_ := AM (Kd.C_below (by repeat (first | (with_reducible exact HR436_0.out) | (with_reducible refine Kd.C_alloc ?_ _) | (with_reducible refine Kd.C_drewN ?_ _) | (with_reducible refine Kd.C_drew ?_) | exact HR436_0.out)) hb)
                           have n8_ := AM (Kd.C_below (by repeat (first | (with_reducible exact HR437_0.out) | (with_reducible refine Kd.C_alloc ?_ _) | (with_reducible refine Kd.C_drewN ?_ _) | (with_reducible refine Kd.C_drew ?_) | exact HR437_0.out)) hb)
                           have n9_ := AM (below_step (by repeat (first | exact HB.out | apply bA | apply bN | apply bD)) hb)
                           clear HO_5
                           clear HO_7
                           clear HL434_0
                           clear HL436_0
                           clear HL437_0
                           clear HR434_0
                           clear HR436_0
                           clear HR437_0
                           clear HB
                           have HO_5 := n0_
                           have HO_7 := n1_
                           have HL434_0 := n2_
                           have HL436_0 := n3_
                           have HL437_0 := n4_
                           have HO440 := n5_
                           have HR434_0 := n6_
                           have HR436_0 := n7_
                           have HR437_0 := n8_
                           have HB := n9_
                           clear n0_ n1_ n2_ n3_ n4_ n5_ n6_ n7_ n8_ n9_
                           (try clear hb)
                           (try clear hb2)
                           (try clear hk)
                           (try clear hi)
                           (try clear ho0)
                           have p84 : 0 ≤ (x13_5 : Int) := od
                           have q84 : (x13_5 : Int) < ((x5_5.length : Int) : Int) := od
                           obtain ⟨ce84, hcl84, hM84, hcc84, hfr84⟩ := Kd.N_elem HO_5.out [] (x13_5 : Int) p84 q84
                           obtain ⟨ua84_0, uc84_0, rfl, ul84_0, ge84_0⟩ := Kd.FK_slice_open hM84
                           have hx84_0 := hcc84 0 _ rfl
                           have hf84_0 := hfr84 0
                           (try simp only [show ((Kd.slice 3 (Kd.int .i64))).sz = 1 from rfl, Nat.mul_one, Nat.add_zero] at hx84_0)
                           (try simp only [show ((Kd.slice 3 (Kd.int .i64))).sz = 1 from rfl, Nat.mul_one, Nat.add_zero] at hf84_0)
                           (try clear hM84); clear hcl84 hcc84 hfr84
                           replace p84 := eq_true p84
                           replace q84 := eq_true q84
                           obtain ⟨Ao92, co92, eo92⟩ := Kd.R_slice HO440.out
                           (first | subst eo92 | (injection eo92 with f1_ f2_ f3_; have f4_ := f1_.symm; have f5_ := f3_.symm; clear f1_ f2_ f3_; subst f4_; subst f5_))
                           have HX91 := AM (show Kd.N (Kd.slice 3 (Kd.int .i64)) 32 _ w.heap.size (fun k_ => (w.heap.size ≤ k_) ∧ some k_ ≠ (.slice (some ⟨go44, 0, none⟩) x7_5.length co57 : Value).ownBlock ∧ some k_ ≠ (.slice Ao92 t438.length co92 : Value).ownBlock) (.slice (some ⟨go40, 0, none⟩) x5_5.length co52) x5_5 from (Kd.N_mono (HO_5.out) (fun k_ hk => ⟨hk.1.1, ⟨hk.1.2, hk.2⟩⟩)))
                           replace HX91 := AM (show Kd.N (Kd.slice 3 (Kd.int .i64)) 32 _ w.heap.size (fun k_ => (w.heap.size ≤ k_) ∧ some k_ ≠ (.slice (some ⟨go44, 0, none⟩) x7_5.length co57 : Value).ownBlock) (.slice (some ⟨go40, 0, none⟩) x5_5.length co52) x5_5 from Kd.N_mono HX91.out (fun k_ hk => ⟨hk.1, hk.2.1⟩))
                           obtain ⟨ce91, hcl91, hM91, hcc91, hfr91⟩ := Kd.N_elem HX91.out [] (x13_5 : Int) (od) (by have h_ : (x13_5 : Int) < ((x5_5.length : Int) : Int) := od; first | exact h_ | (have e_ := (Kd.N_reads' HO_5.out).1; omega) | simpa using h_)
                           obtain ⟨ua91_0, uc91_0, rfl, ul91_0, ge91_0⟩ := Kd.FK_slice_open hM91
                           have HP91 := (Kd.N_seg HX91.out (x13_5 : Int) (od) (by have h_ : (x13_5 : Int) < ((x5_5.length : Int) : Int) := od; first | exact h_ | (have e_ := (Kd.N_reads' HO_5.out).1; omega) | simpa using h_) (seg := [.slice Ao92 t438.length co92]) (j := 0) hcl91 hcc91 (show 1 ≤ 1 from by decide) (x' := t438) (Kd.FK_slice_mk (Kd.R_reads' (Kd.R_mono (ok' := (fun k_ => ((fun k_ => (w.heap.size ≤ k_) ∧ some k_ ≠ (.slice (some ⟨go44, 0, none⟩) x7_5.length co57 : Value).ownBlock)) k_ ∧ k_ ≠ go40)) (Kd.R_apart' (Kd.R_apart' (HO440.out) (Kd.N_typed HO_7.out) (by decide)) (Kd.N_typed HO_5.out) (by decide)) (fun k_ hk => ⟨⟨hk.1.1.1, hk.1.2⟩, fun e_ => (hk.2) (by rw [e_]; rfl)⟩))).2.1 (Kd.R_F (Kd.R_mono (ok' := (fun k_ => ((fun k_ => (w.heap.size ≤ k_) ∧ some k_ ≠ (.slice (some ⟨go44, 0, none⟩) x7_5.length co57 : Value).ownBlock)) k_ ∧ k_ ≠ go40)) (Kd.R_apart' (Kd.R_apart' (HO440.out) (Kd.N_typed HO_7.out) (by decide)) (Kd.N_typed HO_5.out) (by decide)) (fun k_ hk => ⟨⟨hk.1.1.1, hk.1.2⟩, fun e_ => (hk.2) (by rw [e_]; rfl)⟩)))) (fun _ hk => hk)).1
                           (try simp only [show ((Kd.slice 3 (Kd.int .i64))).sz = 1 from rfl, Nat.mul_one, Nat.add_zero] at HP91)
                           rw [← Ny441.out] at HP91
                           have HQ91 := AM HP91
                           (try clear hM91); clear hcl91 hcc91 hfr91 HP91
                           refine hK.out _ _ ⟨HS0_, HS1_⟩ (fun hHeld => ?_)
                           clear hK K
                           refine norm_ (a' := ?_) ?_ ?_
                           rotate_left
                           ·show Act.put _ (some 164) _ = _
                            simp only [Act.put, qT, q0, qS, i64_w, i32_w]
                            rfl
                           refine pure_ (i := 12) (N := some 165) (v := ?_) (a' := ?_) #[true, true, true, true, true, true, true, true, true, true, true, true, true, false] rfl rfl (any_of HT_.out (by kernel_rfl)) (fun _ _ _ h => h) (Or.inl ⟨by rfl, ?_⟩) ?_ ?_
                           rotate_left
                           ·intro w'
                            go_simp
                            with_reducible rfl
                           rotate_left
                           ·simp only [Act.put, qT, q0, qS, i64_w, i32_w]
                            rfl
                           refine last_ (i := 13) (N := none) #[true, true, true, true, true, true, true, true, true, true, true, true, true, true] rfl rfl (one_of HT_.out (by kernel_rfl)) (by decide) (fun K hK => ?_)
                           refine skip_ (w1 := ?_) (by rfl) rfl ?_ ?_
                           rotate_left
                           ·go_simp
                            rfl
                           refine hK.out _ _ ?_
                           clear hK K
                           refine done_ (done_of HT_.out (by kernel_rfl)) ?_
                           try go_wp2
                           have n0_ : Aside0 (Kd.N (Kd.slice 3 (Kd.int .i64)) 32 (w90.setCell ⟨go40, (x13_5 : Int).toNat, none⟩ (.slice Ao92 t438.length co92)) w.heap.size (fun k_ => (w.heap.size ≤ k_) ∧ some k_ ≠ (.slice (some ⟨go44, 0, none⟩) x7_5.length co57 : Value).ownBlock) (.slice (some ⟨go40, 0, none⟩) x5_5.length co52) y441) := ⟨by exact HQ91.out⟩
                           have n1_ : Aside0 (Kd.N (Kd.slice 3 (Kd.int .i64)) 32 (w90.setCell ⟨go40, (x13_5 : Int).toNat, none⟩ (.slice Ao92 t438.length co92)) w.heap.size (fun k_ => (w.heap.size ≤ k_) ∧ some k_ ≠ (.slice (some ⟨go40, 0, none⟩) x5_5.length co52 : Value).ownBlock) (.slice (some ⟨go44, 0, none⟩) x7_5.length co57) x7_5) := ⟨by exact Kd.N_mono (Kd.N_far (p := ⟨go40, (x13_5 : Int).toNat, none⟩) (Kd.N_mono HO_7.out (fun k_ hk => (⟨hk, fun e_ => hk.1.2 (by rw [e_]; rfl)⟩ : _ ∧ k_ ≠ go40))) (fun _ hk => hk.2) (.slice Ao92 t438.length co92)) (fun _ hk => ⟨hk.1.1.1, hk.1.1.2⟩)⟩
                           have n2_ : Aside0 (Kd.V (Kd.int .i64) 3 (w90.setCell ⟨go40, (x13_5 : Int).toNat, none⟩ (.slice Ao92 t438.length co92)) w.heap.size (fun k_ => (w.heap.size ≤ k_) ∧ some k_ ≠ (.slice (some ⟨go40, 0, none⟩) x5_5.length co52 : Value).ownBlock ∧ some k_ ≠ (.slice (some ⟨go44, 0, none⟩) x7_5.length co57 : Value).ownBlock) (.slice (some ad435) (rd_L2 x5_5 x13_5).length c434_0) (rd_L2 x5_5 x13_5)) := ⟨by exact Kd.V_mono (Kd.V_far (p := ⟨go40, (x13_5 : Int).toNat, none⟩) (Kd.V_mono HL434_0.out (fun k_ hk => (⟨hk, fun e_ => hk.1.2 (by rw [e_]; rfl)⟩ : _ ∧ k_ ≠ go40))) (fun _ hk => hk.2) (.slice Ao92 t438.length co92)) (fun _ hk => ⟨hk.1.1.1.1, ⟨hk.1.1.2, hk.1.1.1.2⟩⟩)⟩
                           have n3_ : Aside0 (Kd.V (Kd.int .i64) 3 (w90.setCell ⟨go40, (x13_5 : Int).toNat, none⟩ (.slice Ao92 t438.length co92)) w.heap.size (fun k_ => (w.heap.size ≤ k_) ∧ some k_ ≠ (.slice (some ⟨go40, 0, none⟩) x5_5.length co52 : Value).ownBlock ∧ some k_ ≠ (.slice (some ⟨go44, 0, none⟩) x7_5.length co57 : Value).ownBlock) (.slice A436_0 (rd_L2 x5_5 x13_5).length c436_0) (rd_L2 x5_5 x13_5)) := ⟨by exact Kd.V_mono (Kd.V_far (p := ⟨go40, (x13_5 : Int).toNat, none⟩) (Kd.V_mono HL436_0.out (fun k_ hk => (⟨hk, fun e_ => hk.1.2 (by rw [e_]; rfl)⟩ : _ ∧ k_ ≠ go40))) (fun _ hk => hk.2) (.slice Ao92 t438.length co92)) (fun _ hk => ⟨hk.1.1.1.1, ⟨hk.1.1.2, hk.1.1.1.2⟩⟩)⟩
                           have n4_ : Aside0 (Kd.V (Kd.int .i64) 3 (w90.setCell ⟨go40, (x13_5 : Int).toNat, none⟩ (.slice Ao92 t438.length co92)) w.heap.size (fun k_ => (w.heap.size ≤ k_) ∧ some k_ ≠ (.slice (some ⟨go40, 0, none⟩) x5_5.length co52 : Value).ownBlock ∧ some k_ ≠ (.slice (some ⟨go44, 0, none⟩) x7_5.length co57 : Value).ownBlock) (.slice A437_0 (rd_L2 x5_5 x8_3).length c437_0) (rd_L2 x5_5 x8_3)) := ⟨by exact Kd.V_mono (Kd.V_far (p := ⟨go40, (x13_5 : Int).toNat, none⟩) (Kd.V_mono HL437_0.out (fun k_ hk => (⟨hk, fun e_ => hk.1.2 (by rw [e_]; rfl)⟩ : _ ∧ k_ ≠ go40))) (fun _ hk => hk.2) (.slice Ao92 t438.length co92)) (fun _ hk => ⟨hk.1.1.1.1, ⟨hk.1.1.2, hk.1.1.1.2⟩⟩)⟩
                           have n5_ : Aside0 (Below w.heap.size w (w90.setCell ⟨go40, (x13_5 : Int).toNat, none⟩ (.slice Ao92 t438.length co92))) := ⟨by repeat (first | (with_reducible first | exact HB.out | apply bA | apply bN | apply bD | refine below_set ?_ GB40.out) | exact HB.out)⟩
                           (try clear HO_5)
                           (try clear HO_7)
                           (try clear HL434_0)
                           (try clear HL436_0)
                           (try clear HL437_0)
                           (try clear HB)
                           generalize (w90.setCell ⟨go40, (x13_5 : Int).toNat, none⟩ (.slice Ao92 t438.length co92)) = w93 at n0_ n1_ n2_ n3_ n4_ n5_ ⊢
                           have HO_5 := n0_
                           have HO_7 := n1_
                           have HL434_0 := n2_
                           have HL436_0 := n3_
                           have HL437_0 := n4_
                           have HB := n5_
                           clear n0_ n1_ n2_ n3_ n4_ n5_
                           have n0_ := AM (Kd.N_drew HO_5.out)
                           have n1_ := AM (Kd.N_drew HO_7.out)
                           have n2_ := AM (Kd.V_drew HL434_0.out)
                           have n3_ := AM (Kd.V_drew HL436_0.out)
                           have n4_ := AM (Kd.V_drew HL437_0.out)
                           have n5_ := AM (below_drew1 HB.out)
                           clear HO_5
                           clear HO_7
                           clear HL434_0
                           clear HL436_0
                           clear HL437_0
                           clear HB
                           have HO_5 := n0_
                           have HO_7 := n1_
                           have HL434_0 := n2_
                           have HL436_0 := n3_
                           have HL437_0 := n4_
                           have HB := n5_
                           clear n0_ n1_ n2_ n3_ n4_ n5_
                           have p442 : 0 ≤ (x13_5 : Int) := od
                           have q442 : x13_5 < (x7_5.length : Int) := od
                           obtain ⟨ad442, A442_0, c442_0, e442, hx442_0, hl442_0, hi442_0⟩ := at_L2 (Kd.N_reads' HO_7.out).2.2 x13_5 p442 q442
                           obtain rfl : (⟨go44, 0, none⟩ : Addr) = ad442 := (by injection e442)
                           obtain ⟨ce442, hce442, hMe442, hcc442⟩ := Kd.N_get HO_7.out [] x13_5 p442 (by first | exact q442 | exact od | (have e_ := (Kd.N_reads' HO_7.out).1; omega))
                           obtain ⟨ua442_0, uc442_0, rfl, ul442_0, ge442_0⟩ := Kd.FK_slice_open hMe442
                           have hv442_0 := hcc442 0 _ rfl
                           rw [Nat.add_zero, show ((Kd.slice 3 (Kd.int .i64))).sz = 1 from rfl, Nat.mul_one] at hv442_0
                           replace hv442_0 := Option.some.inj (hv442_0.symm.trans hx442_0)
                           injection hv442_0 with hva_ hvn_ hvc_
                           rw [hva_] at ge442_0
                           rw [hvc_] at ul442_0
                           have HL442_0 := AM (show Kd.V (Kd.int .i64) 3 _ w.heap.size _ _ (rd_L2 x7_5 x13_5) from Kd.V_mk ul442_0 ge442_0)
                           clear hva_ hvn_ hvc_ ge442_0 ul442_0
                           clear hcc442 hce442
                           (first | simp only [add_plain] at hx442_0 | simp only [add_at] at hx442_0 | simp only [Addr.add, Nat.zero_add] at hx442_0 | skip)
                           have HR442_0 := AM hi442_0
                           have HC442_0 := AM hl442_0
                           clear hi442_0 hl442_0
                           replace p442 := eq_true p442
                           replace q442 := eq_true q442
                           have p443 : 0 ≤ (x8_3 : Int) := od
                           have q443 : x8_3 < (x7_5.length : Int) := od
                           obtain ⟨ad443, A443_0, c443_0, e443, hx443_0, hl443_0, hi443_0⟩ := at_L2 (Kd.N_reads' HO_7.out).2.2 x8_3 p443 q443
                           obtain rfl : (⟨go44, 0, none⟩ : Addr) = ad443 := (by injection e443)
                           obtain ⟨ce443, hce443, hMe443, hcc443⟩ := Kd.N_get HO_7.out [] x8_3 p443 (by first | exact q443 | exact od | (have e_ := (Kd.N_reads' HO_7.out).1; omega))
                           obtain ⟨ua443_0, uc443_0, rfl, ul443_0, ge443_0⟩ := Kd.FK_slice_open hMe443
                           have hv443_0 := hcc443 0 _ rfl
                           rw [Nat.add_zero, show ((Kd.slice 3 (Kd.int .i64))).sz = 1 from rfl, Nat.mul_one] at hv443_0
                           replace hv443_0 := Option.some.inj (hv443_0.symm.trans hx443_0)
                           injection hv443_0 with hva_ hvn_ hvc_
                           rw [hva_] at ge443_0
                           rw [hvc_] at ul443_0
                           have HL443_0 := AM (show Kd.V (Kd.int .i64) 3 _ w.heap.size _ _ (rd_L2 x7_5 x8_3) from Kd.V_mk ul443_0 ge443_0)
                           clear hva_ hvn_ hvc_ ge443_0 ul443_0
                           clear hcc443 hce443
                           (first | simp only [add_plain] at hx443_0 | simp only [add_at] at hx443_0 | simp only [Addr.add, Nat.zero_add] at hx443_0 | skip)
                           have HR443_0 := AM hi443_0
                           have HC443_0 := AM hl443_0
                           clear hi443_0 hl443_0
                           replace p443 := eq_true p443
                           replace q443 := eq_true q443
                           refine start_ (n := 14) (S := fun w' => w'.cell? ⟨go44, (x13_5).toNat, none⟩ = some (.slice A442_0 (rd_L2 x7_5 x13_5).length c442_0) ∧ w'.cell? ⟨go44, (x8_3).toNat, none⟩ = some (.slice A443_0 (rd_L2 x7_5 x8_3).length c443_0)) (ds := [13]) #[false, false, false, false, false, false, false, false, false, false, false, false, false, false] (by kernel_rfl) rfl rfl ⟨hx442_0, hx443_0⟩ (fun hHeld => ?_); refine with_tabW spec_InvM.tab33 spec_InvM.bits33 (fun HT_ HW_ => ?_)
                           generalize w93.drew = w94 at HO_5 HO_7 HL434_0 HL436_0 HL437_0 HB HL442_0 HL443_0 HQ91 HR442_0 HR443_0 hx442_0 hx443_0 hHeld ⊢
                           refine pure_ (i := 0) (N := some 166) (v := ?_) (a' := ?_) #[true, false, false, false, false, false, false, false, false, false, false, false, false, false] rfl rfl (any_of HT_.out (by kernel_rfl)) (fun _ _ _ h => h) (Or.inl ⟨by rfl, ?_⟩) ?_ ?_
                           rotate_left
                           ·intro w'
                            go_simp
                            with_reducible rfl
                           rotate_left
                           ·simp only [Act.put, qT, q0, qS, i64_w, i32_w]
                            rfl
                           refine pure_ (i := 1) (N := some 167) (v := ?_) (a' := ?_) #[true, true, false, false, false, false, false, false, false, false, false, false, false, false] rfl rfl (any_of HT_.out (by kernel_rfl)) (fun _ _ _ h => h) (Or.inl ⟨by rfl, ?_⟩) ?_ ?_
                           rotate_left
                           ·intro w'
                            go_simp
                            with_reducible rfl
                           rotate_left
                           ·simp only [Act.put, qT, q0, qS, i64_w, i32_w]
                            rfl
                           refine pure_ (i := 2) (N := some 168) (v := ?_) (a' := ?_) #[true, true, true, false, false, false, false, false, false, false, false, false, false, false] rfl rfl (any_of HT_.out (by kernel_rfl)) (fun _ _ _ h => h) (Or.inl ⟨by rfl, ?_⟩) ?_ ?_
                           rotate_left
                           ·intro w'
                            go_simp
                            with_reducible rfl
                           rotate_left
                           ·simp only [Act.put, qT, q0, qS, i64_w, i32_w]
                            rfl
                           refine pure_ (i := 3) (N := some 169) (v := ?_) (a' := ?_) #[true, true, true, true, false, false, false, false, false, false, false, false, false, false] rfl rfl (any_of HT_.out (by kernel_rfl)) (fun _ _ _ h => h) (Or.inl ⟨by rfl, ?_⟩) ?_ ?_
                           rotate_left
                           ·intro w'
                            go_simp
                            with_reducible rfl
                           rotate_left
                           ·simp only [Act.put, qT, q0, qS, i64_w, i32_w]
                            rfl
                           refine pure_ (i := 4) (N := some 170) (v := ?_) (a' := ?_) #[true, true, true, true, true, false, false, false, false, false, false, false, false, false] rfl rfl (any_of HT_.out (by kernel_rfl)) (fun _ _ _ h => h) (Or.inl ⟨by rfl, ?_⟩) ?_ ?_
                           rotate_left
                           ·intro w'
                            go_simp
                            with_reducible rfl
                           rotate_left
                           ·simp only [Act.put, qT, q0, qS, i64_w, i32_w]
                            rfl
                           refine pure_ (i := 6) (N := some 172) (v := ?_) (a' := ?_) #[true, true, true, true, true, false, true, false, false, false, false, false, false, false] rfl rfl (any_of HT_.out (by kernel_rfl)) (fun _ _ _ h => h) (Or.inl ⟨by rfl, ?_⟩) ?_ ?_
                           rotate_left
                           ·intro w'
                            go_simp
                            with_reducible rfl
                           rotate_left
                           ·simp only [Act.put, qT, q0, qS, i64_w, i32_w]
                            rfl
                           refine pure_ (i := 7) (N := some 173) (v := ?_) (a' := ?_) #[true, true, true, true, true, false, true, true, false, false, false, false, false, false] rfl rfl (any_of HT_.out (by kernel_rfl)) (fun _ _ _ h => h) (Or.inl ⟨by rfl, ?_⟩) ?_ ?_
                           rotate_left
                           ·intro w'
                            go_simp
                            with_reducible rfl
                           rotate_left
                           ·simp only [Act.put, qT, q0, qS, i64_w, i32_w]
                            rfl
                           refine pure_ (i := 8) (N := some 174) (v := ?_) (a' := ?_) #[true, true, true, true, true, false, true, true, true, false, false, false, false, false] rfl rfl (any_of HT_.out (by kernel_rfl)) (fun _ _ _ h => h) (Or.inl ⟨by rfl, ?_⟩) ?_ ?_
                           rotate_left
                           ·intro w'
                            go_simp
                            with_reducible rfl
                           rotate_left
                           ·simp only [Act.put, qT, q0, qS, i64_w, i32_w]
                            rfl
                           refine pure_ (i := 10) (N := some 176) (v := ?_) (a' := ?_) #[true, true, true, true, true, false, true, true, true, false, true, false, false, false] rfl rfl (any_of HT_.out (by kernel_rfl)) (fun _ _ _ h => h) (Or.inl ⟨by rfl, ?_⟩) ?_ ?_
                           rotate_left
                           ·intro w'
                            go_simp
                            with_reducible rfl
                           rotate_left
                           ·simp only [Act.put, qT, q0, qS, i64_w, i32_w]
                            rfl
                           refine take_ (i := 5) (N := some 171) (v := ?_) (a' := ?_) #[true, true, true, true, true, true, true, true, true, false, true, false, false, false] rfl rfl (take_ofW HT_.out HW_.out (by kernel_rfl)) (fun _ _ _ h => h) (Or.inl ⟨by rfl, ?_⟩) hHeld ?_ ?_
                           rotate_left
                           ·rintro w' ⟨s0, s1⟩
                            go_simp
                            with_reducible rfl
                           rotate_left
                           ·simp only [Act.put, qT, q0, qS, i64_w, i32_w]
                            rfl
                           refine take_ (i := 9) (N := some 175) (v := ?_) (a' := ?_) #[true, true, true, true, true, true, true, true, true, true, true, false, false, false] rfl rfl (take_ofW HT_.out HW_.out (by kernel_rfl)) (fun _ _ _ h => h) (Or.inl ⟨by rfl, ?_⟩) hHeld ?_ ?_
                           rotate_left
                           ·rintro w' ⟨s0, s1⟩
                            go_simp
                            with_reducible rfl
                           rotate_left
                           ·simp only [Act.put, qT, q0, qS, i64_w, i32_w]
                            rfl
                           refine one_ (i := 11) (N := some 177) #[true, true, true, true, true, true, true, true, true, true, true, true, false, false] rfl rfl (one_of HT_.out (by kernel_rfl)) (by decide) (fun K hK => ?_)
                           refine goes_ Try.func59 (by kernel_rfl) rfl #[.slice A442_0 (rd_L2 x7_5 x13_5).length c442_0, .slice A443_0 (rd_L2 x7_5 x8_3).length c443_0, .int .i64 (rd (rd_L2 x5_5 x13_5) x8_3)] (by rfl) rfl rfl (by (try simp only [List.map_toArray, List.map_cons, List.map_nil]); first | done | rfl) ?_
                           with_reducible refine (spec_l06Row.calls kj70 _ _ (rd_L2 x7_5 x13_5) _ _ (rd_L2 x7_5 x8_3) (rd (rd_L2 x5_5 x13_5) x8_3) t444 _ ?side1 ?side2 ?side3 ?side4 A87.out).mono ?_
                           (case side1 => repeat (first | exact (by repeat (first | (with_reducible exact HR442_0.out) | (with_reducible refine Kd.C_alloc ?_ _) | (with_reducible refine Kd.C_drewN ?_ _) | (with_reducible refine Kd.C_drew ?_) | exact HR442_0.out)) | (with_reducible refine Kd.C_alloc ?_ _) | (with_reducible refine Kd.C_drewN ?_ _) | (with_reducible refine Kd.C_drew ?_)))
                           (case side2 => exact HC442_0.out)
                           (case side3 => repeat (first | exact (by repeat (first | (with_reducible exact HR443_0.out) | (with_reducible refine Kd.C_alloc ?_ _) | (with_reducible refine Kd.C_drewN ?_ _) | (with_reducible refine Kd.C_drew ?_) | exact HR443_0.out)) | (with_reducible refine Kd.C_alloc ?_ _) | (with_reducible refine Kd.C_drewN ?_ _) | (with_reducible refine Kd.C_drew ?_)))
                           (case side4 => exact HC443_0.out)
                           rintro e w95 ⟨v445, rfl, ho0, hb⟩
                           have HS0_ := (hb.cell (World.block_lt_of_cell? _ _ (hHeld.1))).trans (hHeld.1)
                           have HS1_ := (hb.cell (World.block_lt_of_cell? _ _ (hHeld.2))).trans (hHeld.2)
                           refine ⟨_, rfl, ?_⟩
                           have n0_ := AM (Kd.N_elder' (by exact HO_5.out) (Kd.R_base ho0) hb)
                           have n1_ := AM (Kd.N_elder' (by exact HO_7.out) (Kd.R_base ho0) hb)
                           have n2_ := AM (Kd.V_elder' (by exact HL434_0.out) (Kd.R_base ho0) hb)
                           have n3_ := AM (Kd.V_elder' (by exact HL436_0.out) (Kd.R_base ho0) hb)
                           have n4_ := AM (Kd.V_elder' (by exact HL437_0.out) (Kd.R_base ho0) hb)
                           have n5_ := AM (Kd.V_elder' (by exact HL442_0.out) (Kd.R_base ho0) hb)
                           have n6_ := AM (Kd.V_elder' (by exact HL443_0.out) (Kd.R_base ho0) hb)
                           have n7_ := AM (Kd.R_lower (Kd.R_newM (M := fun k_ => (w.heap.size ≤ k_)) ho0 (below_size (by repeat (first | exact HB.out | apply bA | apply bN | apply bD))) (fun k_ h_ => h_)) (below_size (by repeat (first | exact HB.out | apply bA | apply bN | apply bD))))
                           have n8_ := AM (Kd.C_below (by repeat (first | (with_reducible exact HR442_0.out) | (with_reducible refine Kd.C_alloc ?_ _) | (with_reducible refine Kd.C_drewN ?_ _) | (with_reducible refine Kd.C_drew ?_) | exact HR442_0.out)) hb)
                           have n9_ := AM (Kd.C_below (by repeat (first | (with_reducible exact HR443_0.out) | (with_reducible refine Kd.C_alloc ?_ _) | (with_reducible refine Kd.C_drewN ?_ _) | (with_reducible refine Kd.C_drew ?_) | exact HR443_0.out)) hb)
                           have n10_ := AM (below_step (by repeat (first | exact HB.out | apply bA | apply bN | apply bD)) hb)
                           clear HO_5
                           clear HO_7
                           clear HL434_0
                           clear HL436_0
                           clear HL437_0
                           clear HL442_0
                           clear HL443_0
                           clear HR442_0
                           clear HR443_0
                           clear HB
                           have HO_5 := n0_
                           have HO_7 := n1_
                           have HL434_0 := n2_
                           have HL436_0 := n3_
                           have HL437_0 := n4_
                           have HL442_0 := n5_
                           have HL443_0 := n6_
                           have HO446 := n7_
                           have HR442_0 := n8_
                           have HR443_0 := n9_
                           have HB := n10_
                           clear n0_ n1_ n2_ n3_ n4_ n5_ n6_ n7_ n8_ n9_ n10_
                           (try clear hb)
                           (try clear hb2)
                           (try clear hk)
                           (try clear hi)
                           (try clear ho0)
                           have p88 : 0 ≤ (x13_5 : Int) := od
                           have q88 : (x13_5 : Int) < ((x7_5.length : Int) : Int) := od
                           obtain ⟨ce88, hcl88, hM88, hcc88, hfr88⟩ := Kd.N_elem HO_7.out [] (x13_5 : Int) p88 q88
                           obtain ⟨ua88_0, uc88_0, rfl, ul88_0, ge88_0⟩ := Kd.FK_slice_open hM88
                           have hx88_0 := hcc88 0 _ rfl
                           have hf88_0 := hfr88 0
                           (try simp only [show ((Kd.slice 3 (Kd.int .i64))).sz = 1 from rfl, Nat.mul_one, Nat.add_zero] at hx88_0)
                           (try simp only [show ((Kd.slice 3 (Kd.int .i64))).sz = 1 from rfl, Nat.mul_one, Nat.add_zero] at hf88_0)
                           (try clear hM88); clear hcl88 hcc88 hfr88
                           replace p88 := eq_true p88
                           replace q88 := eq_true q88
                           obtain ⟨Ao97, co97, eo97⟩ := Kd.R_slice HO446.out
                           (first | subst eo97 | (injection eo97 with f1_ f2_ f3_; have f4_ := f1_.symm; have f5_ := f3_.symm; clear f1_ f2_ f3_; subst f4_; subst f5_))
                           have HX96 := AM (show Kd.N (Kd.slice 3 (Kd.int .i64)) 32 _ w.heap.size (fun k_ => (w.heap.size ≤ k_) ∧ some k_ ≠ (.slice (some ⟨go40, 0, none⟩) x5_5.length co52 : Value).ownBlock ∧ some k_ ≠ (.slice Ao97 t444.length co97 : Value).ownBlock) (.slice (some ⟨go44, 0, none⟩) x7_5.length co57) x7_5 from (Kd.N_mono (HO_7.out) (fun k_ hk => ⟨hk.1.1, ⟨hk.1.2, hk.2⟩⟩)))
                           replace HX96 := AM (show Kd.N (Kd.slice 3 (Kd.int .i64)) 32 _ w.heap.size (fun k_ => (w.heap.size ≤ k_) ∧ some k_ ≠ (.slice (some ⟨go40, 0, none⟩) x5_5.length co52 : Value).ownBlock) (.slice (some ⟨go44, 0, none⟩) x7_5.length co57) x7_5 from Kd.N_mono HX96.out (fun k_ hk => ⟨hk.1, hk.2.1⟩))
                           obtain ⟨ce96, hcl96, hM96, hcc96, hfr96⟩ := Kd.N_elem HX96.out [] (x13_5 : Int) (od) (by have h_ : (x13_5 : Int) < ((x7_5.length : Int) : Int) := od; first | exact h_ | (have e_ := (Kd.N_reads' HO_7.out).1; omega) | simpa using h_)
                           obtain ⟨ua96_0, uc96_0, rfl, ul96_0, ge96_0⟩ := Kd.FK_slice_open hM96
                           have HP96 := (Kd.N_seg HX96.out (x13_5 : Int) (od) (by have h_ : (x13_5 : Int) < ((x7_5.length : Int) : Int) := od; first | exact h_ | (have e_ := (Kd.N_reads' HO_7.out).1; omega) | simpa using h_) (seg := [.slice Ao97 t444.length co97]) (j := 0) hcl96 hcc96 (show 1 ≤ 1 from by decide) (x' := t444) (Kd.FK_slice_mk (Kd.R_reads' (Kd.R_mono (ok' := (fun k_ => ((fun k_ => (w.heap.size ≤ k_) ∧ some k_ ≠ (.slice (some ⟨go40, 0, none⟩) x5_5.length co52 : Value).ownBlock)) k_ ∧ k_ ≠ go44)) (Kd.R_apart' (Kd.R_apart' (HO446.out) (Kd.N_typed HO_5.out) (by decide)) (Kd.N_typed HO_7.out) (by decide)) (fun k_ hk => ⟨⟨hk.1.1.1, hk.1.2⟩, fun e_ => (hk.2) (by rw [e_]; rfl)⟩))).2.1 (Kd.R_F (Kd.R_mono (ok' := (fun k_ => ((fun k_ => (w.heap.size ≤ k_) ∧ some k_ ≠ (.slice (some ⟨go40, 0, none⟩) x5_5.length co52 : Value).ownBlock)) k_ ∧ k_ ≠ go44)) (Kd.R_apart' (Kd.R_apart' (HO446.out) (Kd.N_typed HO_5.out) (by decide)) (Kd.N_typed HO_7.out) (by decide)) (fun k_ hk => ⟨⟨hk.1.1.1, hk.1.2⟩, fun e_ => (hk.2) (by rw [e_]; rfl)⟩)))) (fun _ hk => hk)).1
                           (try simp only [show ((Kd.slice 3 (Kd.int .i64))).sz = 1 from rfl, Nat.mul_one, Nat.add_zero] at HP96)
                           rw [← Ny447.out] at HP96
                           have HQ96 := AM HP96
                           (try clear hM96); clear hcl96 hcc96 hfr96 HP96
                           refine hK.out _ _ ⟨HS0_, HS1_⟩ (fun hHeld => ?_)
                           clear hK K
                           refine norm_ (a' := ?_) ?_ ?_
                           rotate_left
                           ·show Act.put _ (some 177) _ = _
                            simp only [Act.put, qT, q0, qS, i64_w, i32_w]
                            rfl
                           refine pure_ (i := 12) (N := some 178) (v := ?_) (a' := ?_) #[true, true, true, true, true, true, true, true, true, true, true, true, true, false] rfl rfl (any_of HT_.out (by kernel_rfl)) (fun _ _ _ h => h) (Or.inl ⟨by rfl, ?_⟩) ?_ ?_
                           rotate_left
                           ·intro w'
                            go_simp
                            with_reducible rfl
                           rotate_left
                           ·simp only [Act.put, qT, q0, qS, i64_w, i32_w]
                            rfl
                           refine last_ (i := 13) (N := none) #[true, true, true, true, true, true, true, true, true, true, true, true, true, true] rfl rfl (one_of HT_.out (by kernel_rfl)) (by decide) (fun K hK => ?_)
                           refine skip_ (w1 := ?_) (by rfl) rfl ?_ ?_
                           rotate_left
                           ·go_simp
                            rfl
                           refine hK.out _ _ ?_
                           clear hK K
                           refine done_ (done_of HT_.out (by kernel_rfl)) ?_
                           try go_wp2
                           (try simp only [← hl5_5, ← hl7_5])
                           go_roundg kj70
                           case measure => have := HJ1.out; have := HK2.out; have := HK3.out; have := HJ23.out; have := HK5.out; have := HJ70.out; omega
                           case rel => exact ⟨(y441), (y447), (wrap64 (x13_5 + 1)), (by first | rfl | (simp; done) | (simp [*]; done)), H', ⟨by have := HJ1.out; have := HK2.out; have := HK3.out; have := HJ23.out; have := HK5.out; have := HJ70.out; omega⟩, ⟨by (try simp only [hl5_5]); (try simp only [hl7_5]); exact Kd.N_mono (Kd.N_far (p := ⟨go44, (x13_5 : Int).toNat, none⟩) (Kd.N_mono HO_5.out (fun k_ hk => (⟨hk, fun e_ => hk.1.2 (by rw [e_]; rfl)⟩ : _ ∧ k_ ≠ go44))) (fun _ hk => hk.2) (.slice Ao97 t444.length co97)) (fun _ hk => ⟨hk.1.1.1, hk.1.1.2⟩)⟩, ⟨by (try simp only [hl5_5]); (try simp only [hl7_5]); exact HQ96.out⟩, ⟨by repeat (first | (with_reducible first | exact HB.out | apply bA | apply bN | apply bD | refine below_set ?_ GB44.out) | exact HB.out)⟩⟩
                          rw [if_neg c86] at H
                          exact absurd H (by simp)
                         rw [if_neg c85] at H
                         exact absurd H (by simp)
                        rw [if_neg c82] at H
                        exact absurd H (by simp)
                       rw [if_neg c81] at H
                       exact absurd H (by simp)
                      rw [if_neg c80] at H
                      exact absurd H (by simp)
                     rw [if_neg c79] at H
                     exact absurd H (by simp)
                    rw [if_neg c78] at H
                    exact absurd H (by simp)
                   replace c77 := Bool.eq_false_iff.mpr c77
                   subst c77
                   have H1 : (spec_InvM.l3 kj70 (l0.length : Int) x5_5 x7_5 x8_3 (wrap64 (x13_5 + 1))) = some (r1, r2) := by rw [if_neg (show ¬ (false = true) by decide)] at H; exact H
                   clear H
                   have H := H1
                   clear H1
                   have H' := AM H
                   clear H
                   go_wp2
                   (try simp only [← hl5_5, ← hl7_5])
                   go_roundg kj70
                   case measure => have := HJ1.out; have := HK2.out; have := HK3.out; have := HJ23.out; have := HK5.out; have := HJ70.out; omega
                   case rel => exact ⟨(x5_5), (x7_5), (wrap64 (x13_5 + 1)), (by first | rfl | (simp; done) | (simp [*]; done)), H', ⟨by have := HJ1.out; have := HK2.out; have := HK3.out; have := HJ23.out; have := HK5.out; have := HJ70.out; omega⟩, ⟨by (try simp only [hl5_5]); (try simp only [hl7_5]); exact HO_5.out⟩, ⟨by (try simp only [hl5_5]); (try simp only [hl7_5]); exact HO_7.out⟩, ⟨by repeat (first | exact HB.out | apply bA | apply bN | apply bD)⟩⟩
                rw [if_neg c70] at H
                have c70b0 : decide (x13_5 < (l0.length : Int)) = false := decide_eq_false c70
                clear c70
                have H' := AM H
                clear H
                go_wp2
                (try simp only [← hl5_5, ← hl7_5])
                go_roundg k5
                case measure => have := HJ1.out; have := HK2.out; have := HK3.out; have := HJ23.out; have := HK5.out; omega
                case rel => exact ⟨(x5_5), (x7_5), (wrap64 (x8_3 + 1)), (by first | rfl | (simp; done) | (simp [*]; done)), H', ⟨by have := HJ1.out; have := HK2.out; have := HK3.out; have := HJ23.out; have := HK5.out; omega⟩, ⟨by (try simp only [hl5_5]); (try simp only [hl7_5]); exact HO_5.out⟩, ⟨by (try simp only [hl5_5]); (try simp only [hl7_5]); exact HO_7.out⟩, ⟨by repeat (first | exact HB.out | apply bA | apply bN | apply bD)⟩⟩
              rw [if_neg c46] at H
              exact absurd H (by simp)
             rw [if_neg c43] at H
             exact absurd H (by simp)
            rw [if_neg c42] at H
            exact absurd H (by simp)
           rw [if_neg c39] at H
           exact absurd H (by simp)
          rw [if_neg c38] at H
          exact absurd H (by simp)
         rw [if_neg c37] at H
         exact absurd H (by simp)
        rw [if_neg c36] at H
        exact absurd H (by simp)
     rw [if_neg c23] at H
     have c23b0 : decide (x8_3 < (l0.length : Int)) = false := decide_eq_false c23
     clear c23
     simp only [Option.some.injEq, Prod.mk.injEq] at H
     obtain ⟨rfl, rfl⟩ := H
     go_wp2
     go_ret2
     exact ⟨_, by first | rfl | (simp [errW_none, errW_some] <;> rfl) | (simp [*, errW_none, errW_some] <;> rfl), by exact Kd.N_mono HO_7.out (fun _ hk => hk.1), by repeat (first | exact HB.out | apply bA | apply bN | apply bD)⟩
end Go.Proofs.Ytcpcphdhaboekaa.XFnExactRebuild
