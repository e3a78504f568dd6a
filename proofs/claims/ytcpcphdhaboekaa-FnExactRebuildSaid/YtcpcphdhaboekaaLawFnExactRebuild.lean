import Derived.Test.YtcpcphdhaboekaaRows
import Derived.Test.YtcpcphdhaboekaaXFnExactRebuildx15
import Derived.Test.YtcpcphdhaboekaaPureFnExactRebuild
import Derived.Test.YtcpcphdhaboekaaUide
import Derived.WalkKit
import Derived.ProofKit
import Derived.OpenShut
import Derived.ShutString
import Derived.ChangeOld
import Derived.Below
import Derived.SizedLaws
namespace Go.Proofs.Ytcpcphdhaboekaa.fnExactRebuild
open Go.ChangeShapes Go.WideShapes Go.ChangeAt Go.RowKit Go.Proofs.Ytcpcphdhaboekaa.XFnExactRebuild Go.Proofs.YtcpcphdhaboekaaU.PrintWords
open Go.ChangeMaps (open_string shut_string)
set_option linter.unusedVariables false
theorem own : ownKnob Try.prog.godebug = none := by kernel_rfl
theorem laidOut : laidOutB Try.prog = true := by kernel_rfl
set_option maxRecDepth 100000 in
set_option maxHeartbeats 1000000 in
theorem lifted (os : Os) (started : os.Started) (H : Type) (enc : TypeId × Value → H) :
    ReturnsInHanded {} Try.checked os 6 .any (Rows.fnExactRebuildSpec.pre6 enc Try.prog Try.f6 Rows.fnExactRebuildRow.domain false) (Rows.fnExactRebuildSpec.post enc Try.prog Try.f6 false true false false) := by
  refine returnsInHanded_of_change_sized (C := Try.checked) own started (by kernel_rfl) Try.func6
    (ChangeSpec.witness6 (enc := enc) (C := Try.checked) false ⟨#[], #[.int .i64 0, .slice none 0 0, .slice none 0 0], []⟩ 8 (by kernel_rfl) (by kernel_rfl) (by kernel_rfl) (by kernel_rfl)) ?_
  intro W base args ds gs before hval0 hW hcnd hsz0 _
  have hval : ∀ (j : Nat) t v, Try.f6.params[j]? = some t → args[j]? = some v → Value.okWide Try.prog W .any base t v := hval0
  have hW' := hW
  obtain ⟨p, q, hA0, hV, rfl, hfz, hnd⟩ := hW
  have hA : DataW.TrodAll enc Try.prog W 0 (fun _ => true) true Try.f6.params.toList args.toList ds p := hA0
  rw [Try.params6] at hA hval
  obtain ⟨v0, vs0, d0, ds0, p0, q0, hargs, rfl, rfl, h0, r0⟩ := trodAll_cons hA
  obtain ⟨v1, vs1, d1, ds1, p1, q1, rfl, rfl, rfl, h1, r1⟩ := trodAll_cons r0
  obtain ⟨v2, vs2, d2, ds2, p2, q2, rfl, rfl, rfl, h2, r2⟩ := trodAll_cons r1
  obtain ⟨rfl, rfl, rfl⟩ := trodAll_nil r2
  obtain rfl : args = #[v0, v1, v2] := by cases args; simp_all
  obtain ⟨rfl, rfl⟩ := trodVars_none hV
  obtain ⟨a0, rfl, rfl, rfl, w0⟩ := open_int Try.underlying3 (hval 0 3 v0 rfl rfl) h0
  obtain ⟨a1, len1, cap1, rfl⟩ := okWide_slice Try.underlying24 (hval 1 24 v1 rfl rfl)
  have k1 := h1
  have lt1 : ∀ x ∈ p1, x.block < W.heap.size := by obtain ⟨m, hm⟩ := k1; exact DataW.trod_lt m _ _ _ hm
  obtain ⟨l1, e1, hc1, hr1, w1⟩ : ∃ l : List ByteArray, len1 = l.length ∧ l.length ≤ cap1 ∧ Kd.C Kd.string W a1 l.length l ∧ (Wide.WfList Wide.WfStr) l := by
    obtain ⟨fuel, hf⟩ := h1
    obtain ⟨l, ⟨A_, c_, he, hc, hr⟩, hw⟩ := ((Wide.opens_slice Try.underlying24 (by kernel_rfl) (Wide.opens_string Try.underlying9)) : Wide.Opens enc Try.prog W 24 _ _) fuel _ _ hf
    simp [Value.cells] at he
    obtain ⟨rfl, rfl, rfl⟩ := he
    exact ⟨l, rfl, hc, hr, hw⟩
  subst e1
  obtain ⟨a2, len2, cap2, rfl⟩ := okWide_slice Try.underlying34 (hval 2 34 v2 rfl rfl)
  have k2 := h2
  have lt2 : ∀ x ∈ p2, x.block < W.heap.size := by obtain ⟨m, hm⟩ := k2; exact DataW.trod_lt m _ _ _ hm
  obtain ⟨l2, e2, hc2, hr2, w2⟩ : ∃ l : List Bool, len2 = l.length ∧ l.length ≤ cap2 ∧ Kd.C Kd.bool W a2 l.length l ∧ (Wide.WfList Wide.WfBool) l := by
    obtain ⟨fuel, hf⟩ := h2
    obtain ⟨l, ⟨A_, c_, he, hc, hr⟩, hw⟩ := ((Wide.opens_slice Try.underlying34 (by kernel_rfl) (Wide.opens_bool Try.underlying4)) : Wide.Opens enc Try.prog W 34 _ _) fuel _ _ hf
    simp [Value.cells] at he
    obtain ⟨rfl, rfl, rfl⟩ := he
    exact ⟨l, rfl, hc, hr, hw⟩
  subst e2
  clear hA0 hval0 hsz0
  obtain ⟨k_, hP⟩ := Pure.FnExactRebuild a0 l1 l2 w0 w1 w2
  refine (laws_FnExactRebuild.calls k_ a0 _ _ l1 _ _ l2 true W hr1 hc1 hr2 hc2 hP).mono ?_
  rintro e W' ⟨rfl, bel0⟩
  have bel : Below W.heap.size W W' := bel0
  exact ⟨_, rfl, _, _, _, [], _, [], hW', trodAll_mk1 (shut_bool Try.underlying4 _), (trodAll_cons_mk (shut_int Try.underlying3 w0) (trodAll_cons_mk (Below.trod laidOut (by kernel_rfl) (of_decide_eq_true (by kernel_rfl)) k1 bel lt1) (trodAll_cons_mk (Below.trod laidOut (by kernel_rfl) (of_decide_eq_true (by kernel_rfl)) k2 bel lt2) trodAll_mk0))), rfl, bel.frame _, fun h => by cases h⟩
theorem over : Rows.fnExactRebuildRow.holds Try.pinned (OpenSpec.ofChange Rows.fnExactRebuildSpec) :=
  OpenClaim.holds_of_wide 6 Try.f6 rfl rfl rfl rfl rfl rfl rfl ⟨rfl, rfl, rfl, rfl, rfl⟩ rfl rfl rfl rfl rfl (by kernel_rfl) Try.func6 (by kernel_rfl)
    (of_decide_eq_true (by kernel_rfl)) (by unfold Func.isWrapper; first | (rw [if_pos (by decide +kernel)]; kernel_rfl) | (rw [if_neg (by decide +kernel)]; exact ⟨rfl, rfl⟩))
    (fun os started H enc _ => lifted os started H enc)
theorem proved : Rows.FnExactRebuildSaid := over
#print axioms proved
end Go.Proofs.Ytcpcphdhaboekaa.fnExactRebuild
namespace Go.Proofs.Ytcpcphdhaboekaa
theorem fnExactRebuild_holds : Rows.FnExactRebuildSaid := fnExactRebuild.proved
end Go.Proofs.Ytcpcphdhaboekaa
