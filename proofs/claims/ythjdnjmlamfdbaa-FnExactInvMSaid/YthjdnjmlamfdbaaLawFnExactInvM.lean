/- The law FnExactInvM: its row, out of its pure statement and the contract of its walk. Written by a program of this session. -/
import Derived.Test.YthjdnjmlamfdbaaRows
import Derived.Test.YthjdnjmlamfdbaaXFnExactInvMx
import Derived.Test.YthjdnjmlamfdbaaPureFnExactInvM
import Derived.Test.YthjdnjmlamfdbaaWide
import Derived.WalkKit
import Derived.ProofKit
import Derived.OpenShut
import Derived.ShutString
import Derived.ChangeOld
import Derived.Below
import Derived.SizedLaws
namespace Go.Proofs.Ythjdnjmlamfdbaa.fnExactInvM
open Go.ChangeShapes Go.WideShapes Go.ChangeAt Go.RowKit Go.Proofs.Ythjdnjmlamfdbaa.XFnExactInvM Go.Proofs.YthjdnjmlamfdbaaW.PrintWords
open Go.ChangeMaps (open_string shut_string)
set_option linter.unusedVariables false
theorem own : ownKnob Try.prog.godebug = none := by kernel_rfl
theorem laidOut : laidOutB Try.prog = true := by kernel_rfl
set_option maxRecDepth 100000 in
set_option maxHeartbeats 1000000 in
theorem lifted (os : Os) (started : os.Started) (H : Type) (enc : TypeId × Value → H) :
    ReturnsInHanded {} Try.checked os 9 .any (Rows.fnExactInvMSpec.pre6 enc Try.prog Try.f9 Rows.fnExactInvMRow.domain false) (Rows.fnExactInvMSpec.post enc Try.prog Try.f9 false true false false) := by
  refine returnsInHanded_of_change_sized (C := Try.checked) own started (by kernel_rfl) Try.func9
    (ChangeSpec.witness6 (enc := enc) (C := Try.checked) false ⟨#[], #[.slice none 0 0], []⟩ 8 (by kernel_rfl) (by kernel_rfl) (by kernel_rfl) (by kernel_rfl)) ?_
  intro W base args ds gs before hval0 hW hcnd hsz0 _
  have hval : ∀ (j : Nat) t v, Try.f9.params[j]? = some t → args[j]? = some v → Value.okWide Try.prog W .any base t v := hval0
  have hW' := hW
  obtain ⟨p, q, hA0, hV, rfl, hfz, hnd⟩ := hW
  have hA : DataW.TrodAll enc Try.prog W 0 (fun _ => true) true Try.f9.params.toList args.toList ds p := hA0
  rw [Try.params9] at hA hval
  obtain ⟨v0, vs0, d0, ds0, p0, q0, hargs, rfl, rfl, h0, r0⟩ := trodAll_cons hA
  obtain ⟨rfl, rfl, rfl⟩ := trodAll_nil r0
  obtain rfl : args = #[v0] := by cases args; simp_all
  obtain ⟨rfl, rfl⟩ := trodVars_none hV
  obtain ⟨a0, len0, cap0, rfl⟩ := okWide_slice Try.underlying22 (hval 0 22 v0 rfl rfl)
  have k0 := h0
  have lt0 : ∀ x ∈ p0, x.block < W.heap.size := by obtain ⟨m, hm⟩ := k0; exact DataW.trod_lt m _ _ _ hm
  obtain ⟨l0, e0, hc0, hr0, w0⟩ : ∃ l : List (List Int), len0 = l.length ∧ l.length ≤ cap0 ∧ Kd.C (Kd.slice 3 (Kd.int .i64)) W a0 l.length l ∧ (Wide.WfList (Wide.WfList (Wide.WfInt .i64))) l := by
    obtain ⟨fuel, hf⟩ := h0
    obtain ⟨l, ⟨A_, c_, he, hc, hr⟩, hw⟩ := ((Wide.opens_slice Try.underlying22 (by kernel_rfl) (Wide.opens_slice Try.underlying43 (by kernel_rfl) (Wide.opens_int Try.underlying3))) : Wide.Opens enc Try.prog W 22 _ _) fuel _ _ hf
    simp [Value.cells] at he
    obtain ⟨rfl, rfl, rfl⟩ := he
    exact ⟨l, rfl, hc, hr, hw⟩
  subst e0
  clear hA0 hval0 hsz0
  refine (Pure.FnExactInvM _ _ l0 w0 W hr0 hc0).mono ?_
  rintro e W' ⟨rfl, bel⟩
  exact ⟨_, rfl, _, _, _, [], _, [], hW', trodAll_mk1 (shut_bool Try.underlying4 _), (trodAll_cons_mk (Below.trod laidOut (by kernel_rfl) (of_decide_eq_true (by kernel_rfl)) k0 bel lt0) trodAll_mk0), rfl, bel.frame _, fun h => by cases h⟩
theorem over : Rows.fnExactInvMRow.holds Try.pinned (OpenSpec.ofChange Rows.fnExactInvMSpec) :=
  OpenClaim.holds_of_wide 9 Try.f9 rfl rfl rfl rfl rfl rfl rfl ⟨rfl, rfl, rfl, rfl, rfl⟩ rfl rfl rfl rfl rfl (by kernel_rfl) Try.func9 (by kernel_rfl)
    (of_decide_eq_true (by kernel_rfl)) (by unfold Func.isWrapper; first | (rw [if_pos (by decide +kernel)]; kernel_rfl) | (rw [if_neg (by decide +kernel)]; exact ⟨rfl, rfl⟩))
    (fun os started H enc _ => lifted os started H enc)
theorem proved : Rows.FnExactInvMSaid := over
#print axioms proved
end Go.Proofs.Ythjdnjmlamfdbaa.fnExactInvM
namespace Go.Proofs.Ythjdnjmlamfdbaa
/-- The row, under a short name, for the claim. -/
theorem fnExactInvM_holds : Rows.FnExactInvMSaid := fnExactInvM.proved
end Go.Proofs.Ythjdnjmlamfdbaa
