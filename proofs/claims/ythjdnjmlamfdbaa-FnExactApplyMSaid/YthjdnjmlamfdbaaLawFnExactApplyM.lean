/- The law FnExactApplyM: its row, out of its pure statement and the contract of its walk. Written by a program of this session. -/
import Derived.Test.YthjdnjmlamfdbaaRows
import Derived.Test.YthjdnjmlamfdbaaXFnExactApplyMx
import Derived.Test.YthjdnjmlamfdbaaPureFnExactApplyM
import Derived.Test.YthjdnjmlamfdbaaWide
import Derived.WalkKit
import Derived.ProofKit
import Derived.OpenShut
import Derived.ShutString
import Derived.ChangeOld
import Derived.Below
import Derived.SizedLaws
namespace Go.Proofs.Ythjdnjmlamfdbaa.fnExactApplyM
open Go.ChangeShapes Go.WideShapes Go.ChangeAt Go.RowKit Go.Proofs.Ythjdnjmlamfdbaa.XFnExactApplyM Go.Proofs.YthjdnjmlamfdbaaW.PrintWords
open Go.ChangeMaps (open_string shut_string)
set_option linter.unusedVariables false
theorem own : ownKnob Try.prog.godebug = none := by kernel_rfl
theorem laidOut : laidOutB Try.prog = true := by kernel_rfl
set_option maxRecDepth 100000 in
set_option maxHeartbeats 1000000 in
theorem lifted (os : Os) (started : os.Started) (H : Type) (enc : TypeId × Value → H) :
    ReturnsInHanded {} Try.checked os 6 .any (Rows.fnExactApplyMSpec.pre6 enc Try.prog Try.f6 Rows.fnExactApplyMRow.domain false) (Rows.fnExactApplyMSpec.post enc Try.prog Try.f6 false true false false) := by
  refine returnsInHanded_of_change_sized (C := Try.checked) own started (by kernel_rfl) Try.func6
    (ChangeSpec.witness6 (enc := enc) (C := Try.checked) false ⟨#[], #[.slice none 0 0, .slice none 0 0], []⟩ 8 (by kernel_rfl) (by kernel_rfl) (by kernel_rfl) (by kernel_rfl)) ?_
  intro W base args ds gs before hval0 hW hcnd hsz0 _
  have hval : ∀ (j : Nat) t v, Try.f6.params[j]? = some t → args[j]? = some v → Value.okWide Try.prog W .any base t v := hval0
  have hW' := hW
  obtain ⟨p, q, hA0, hV, rfl, hfz, hnd⟩ := hW
  have hA : DataW.TrodAll enc Try.prog W 0 (fun _ => true) true Try.f6.params.toList args.toList ds p := hA0
  rw [Try.params6] at hA hval
  obtain ⟨v0, vs0, d0, ds0, p0, q0, hargs, rfl, rfl, h0, r0⟩ := trodAll_cons hA
  obtain ⟨v1, vs1, d1, ds1, p1, q1, rfl, rfl, rfl, h1, r1⟩ := trodAll_cons r0
  obtain ⟨rfl, rfl, rfl⟩ := trodAll_nil r1
  obtain rfl : args = #[v0, v1] := by cases args; simp_all
  obtain ⟨rfl, rfl⟩ := trodVars_none hV
  obtain ⟨a0, len0, cap0, rfl⟩ := okWide_slice Try.underlying22 (hval 0 22 v0 rfl rfl)
  have k0 := h0
  have lt0 : ∀ x ∈ p0, x.block < W.heap.size := by obtain ⟨m, hm⟩ := k0; exact DataW.trod_lt m _ _ _ hm
  obtain ⟨l0, e0, hc0, hr0, w0⟩ : ∃ l : List (List Int), len0 = l.length ∧ l.length ≤ cap0 ∧ Kd.C (Kd.slice 3 (Kd.int .i64)) W a0 l.length l ∧ (Wide.WfList (Wide.WfList (Wide.WfInt .i64))) l := by
    obtain ⟨fuel, hf⟩ := h0
    obtain ⟨l, ⟨A_, c_, he, hc, hr⟩, hw⟩ := ((Wide.opens_slice Try.underlying22 (by kernel_rfl) (Wide.opens_slice Try.underlying43 (by kernel_rfl) (Wide.opens_int Try.underlying3))) : Wide.Opens enc Try.prog W 22 _ _) fuel _ _ hf
    simp [Value.cells] at he
    obtain ⟨rfl, rfl, rfl⟩ := he
    exact ⟨l, rfl, hc, hr, hw⟩
  subst e0
  obtain ⟨a1, len1, cap1, rfl⟩ := okWide_slice Try.underlying33 (hval 1 33 v1 rfl rfl)
  have k1 := h1
  have lt1 : ∀ x ∈ p1, x.block < W.heap.size := by obtain ⟨m, hm⟩ := k1; exact DataW.trod_lt m _ _ _ hm
  obtain ⟨l1, e1, hc1, hr1, w1⟩ : ∃ l : List ByteArray, len1 = l.length ∧ l.length ≤ cap1 ∧ Kd.C Kd.string W a1 l.length l ∧ (Wide.WfList Wide.WfStr) l := by
    obtain ⟨fuel, hf⟩ := h1
    obtain ⟨l, ⟨A_, c_, he, hc, hr⟩, hw⟩ := ((Wide.opens_slice Try.underlying33 (by kernel_rfl) (Wide.opens_string Try.underlying9)) : Wide.Opens enc Try.prog W 33 _ _) fuel _ _ hf
    simp [Value.cells] at he
    obtain ⟨rfl, rfl, rfl⟩ := he
    exact ⟨l, rfl, hc, hr, hw⟩
  subst e1
  clear hA0 hval0 hsz0
  refine (Pure.FnExactApplyM _ _ l0 _ _ l1 w0 w1 W hr0 hc0 hr1 hc1).mono ?_
  rintro e W' ⟨rfl, bel⟩
  exact ⟨_, rfl, _, _, _, [], _, [], hW', trodAll_mk1 (shut_bool Try.underlying4 _), (trodAll_cons_mk (Below.trod laidOut (by kernel_rfl) (of_decide_eq_true (by kernel_rfl)) k0 bel lt0) (trodAll_cons_mk (Below.trod laidOut (by kernel_rfl) (of_decide_eq_true (by kernel_rfl)) k1 bel lt1) trodAll_mk0)), rfl, bel.frame _, fun h => by cases h⟩
theorem over : Rows.fnExactApplyMRow.holds Try.pinned (OpenSpec.ofChange Rows.fnExactApplyMSpec) :=
  OpenClaim.holds_of_wide 6 Try.f6 rfl rfl rfl rfl rfl rfl rfl ⟨rfl, rfl, rfl, rfl, rfl⟩ rfl rfl rfl rfl rfl (by kernel_rfl) Try.func6 (by kernel_rfl)
    (of_decide_eq_true (by kernel_rfl)) (by unfold Func.isWrapper; first | (rw [if_pos (by decide +kernel)]; kernel_rfl) | (rw [if_neg (by decide +kernel)]; exact ⟨rfl, rfl⟩))
    (fun os started H enc _ => lifted os started H enc)
theorem proved : Rows.FnExactApplyMSaid := over
#print axioms proved
end Go.Proofs.Ythjdnjmlamfdbaa.fnExactApplyM
namespace Go.Proofs.Ythjdnjmlamfdbaa
/-- The row, under a short name, for the claim. -/
theorem fnExactApplyM_holds : Rows.FnExactApplyMSaid := fnExactApplyM.proved
end Go.Proofs.Ythjdnjmlamfdbaa
