/- The law FnExactCutActs: its row, out of its pure statement and the contract of its walk. Written by a program of this session. -/
import Derived.Test.YtnkldnkolcighaaRows
import Derived.Test.YtnkldnkolcighaaXFnExactCutActsx17
import Derived.Test.YtnkldnkolcighaaPureFnExactCutActs
import Derived.Test.YtnkldnkolcighaaTide
import Derived.WalkKit
import Derived.ProofKit
import Derived.OpenShut
import Derived.ShutString
import Derived.ChangeOld
import Derived.Below
import Derived.SizedLaws
namespace Go.Proofs.Ytnkldnkolcighaa.fnExactCutActs
open Go.ChangeShapes Go.WideShapes Go.ChangeAt Go.RowKit Go.Proofs.Ytnkldnkolcighaa.XFnExactCutActs Go.Proofs.YtnkldnkolcighaaT.PrintWords
open Go.ChangeMaps (open_string shut_string)
set_option linter.unusedVariables false
theorem own : ownKnob Try.prog.godebug = none := by kernel_rfl
theorem laidOut : laidOutB Try.prog = true := by kernel_rfl
instance : Inhabited S91 := ⟨z91⟩
instance : Inhabited S24 := ⟨z24⟩
instance : Inhabited S37 := ⟨z37⟩
set_option maxRecDepth 100000 in
set_option maxHeartbeats 1000000 in
theorem lifted (os : Os) (started : os.Started) (H : Type) (enc : TypeId × Value → H) :
    ReturnsInHanded {} Try.checked os 7 .any (Rows.fnExactCutActsSpec.pre6 enc Try.prog Try.f7 Rows.fnExactCutActsRow.domain false) (Rows.fnExactCutActsSpec.post enc Try.prog Try.f7 false true false false) := by
  refine returnsInHanded_of_change_sized (C := Try.checked) own started (by kernel_rfl) Try.func7
    (ChangeSpec.witness6 (enc := enc) (C := Try.checked) false ⟨#[], #[.agg #[.slice none 0 0], .slice none 0 0, .int .i64 0, .slice none 0 0], []⟩ 8 (by kernel_rfl) (by kernel_rfl) (by kernel_rfl) (by kernel_rfl)) ?_
  intro W base args ds gs before hval0 hW hcnd hsz0 _
  have hval : ∀ (j : Nat) t v, Try.f7.params[j]? = some t → args[j]? = some v → Value.okWide Try.prog W .any base t v := hval0
  have hW' := hW
  obtain ⟨p, q, hA0, hV, rfl, hfz, hnd⟩ := hW
  have hA : DataW.TrodAll enc Try.prog W 0 (fun _ => true) true Try.f7.params.toList args.toList ds p := hA0
  rw [Try.params7] at hA hval
  obtain ⟨v0, vs0, d0, ds0, p0, q0, hargs, rfl, rfl, h0, r0⟩ := trodAll_cons hA
  obtain ⟨v1, vs1, d1, ds1, p1, q1, rfl, rfl, rfl, h1, r1⟩ := trodAll_cons r0
  obtain ⟨v2, vs2, d2, ds2, p2, q2, rfl, rfl, rfl, h2, r2⟩ := trodAll_cons r1
  obtain ⟨v3, vs3, d3, ds3, p3, q3, rfl, rfl, rfl, h3, r3⟩ := trodAll_cons r2
  obtain ⟨rfl, rfl, rfl⟩ := trodAll_nil r3
  obtain rfl : args = #[v0, v1, v2, v3] := by cases args; simp_all
  obtain ⟨rfl, rfl⟩ := trodVars_none hV
  obtain ⟨cs0, rfl, hz0⟩ := okWide_struct Try.underlying24 (hval 0 24 v0 rfl rfl)
  have k0 := h0
  have lt0 : ∀ x ∈ p0, x.block < W.heap.size := by obtain ⟨m, hm⟩ := k0; exact DataW.trod_lt m _ _ _ hm
  obtain ⟨fuel0, hf0⟩ := h0
  obtain ⟨y0, hK0, w0⟩ := ((Wide.opens_iso (fun x : S24 => x.f0) (fun y => (⟨y⟩ : S24)) (fun _ => rfl) (Wide.opens_struct1 Try.underlying24 (by unfold Wide.OneCells; kernel_rfl) (by kernel_rfl) (Wide.opens_slice Try.underlying22 (by kernel_rfl) (Wide.opens_iso (fun x : S91 => (x.f0, x.f1, x.f2)) (fun y => (⟨y.1, y.2.1, y.2.2⟩ : S91)) (fun _ => rfl) (Wide.opens_struct3 Try.underlying91 (by unfold Wide.OneCells; kernel_rfl) (by kernel_rfl) (Wide.opens_string Try.underlying9) (Wide.opens_string Try.underlying9) (Wide.opens_int Try.underlying3)))))) : Wide.Opens enc Try.prog W 24 k24 _) fuel0 _ _ hf0
  obtain ⟨A0_0, c0_0, he0, hc0_0, hr0_0⟩ := k24_open hK0
  obtain rfl : cs0 = #[.slice A0_0 y0.f0.length c0_0] := by cases cs0; simpa [Value.cells] using he0
  obtain ⟨a1, len1, cap1, rfl⟩ := okWide_slice Try.underlying45 (hval 1 45 v1 rfl rfl)
  have k1 := h1
  have lt1 : ∀ x ∈ p1, x.block < W.heap.size := by obtain ⟨m, hm⟩ := k1; exact DataW.trod_lt m _ _ _ hm
  obtain ⟨l1, e1, hc1, hr1, w1⟩ : ∃ l : List (S37), len1 = l.length ∧ l.length ≤ cap1 ∧ Kd.C k37 W a1 l.length l ∧ (Wide.WfList (fun y : S37 => (Wide.WfInt .i64) y.f0 ∧ Wide.WfStr y.f1 ∧ Wide.WfStr y.f2 ∧ Wide.WfStr y.f3)) l := by
    obtain ⟨fuel, hf⟩ := h1
    obtain ⟨l, ⟨A_, c_, he, hc, hr⟩, hw⟩ := ((Wide.opens_slice Try.underlying45 (by kernel_rfl) (Wide.opens_iso (fun x : S37 => (x.f0, x.f1, x.f2, x.f3)) (fun y => (⟨y.1, y.2.1, y.2.2.1, y.2.2.2⟩ : S37)) (fun _ => rfl) (Wide.opens_struct4 Try.underlying37 (by unfold Wide.OneCells; kernel_rfl) (by kernel_rfl) (Wide.opens_int Try.underlying3) (Wide.opens_string Try.underlying9) (Wide.opens_string Try.underlying9) (Wide.opens_string Try.underlying9)))) : Wide.Opens enc Try.prog W 45 _ _) fuel _ _ hf
    simp [Value.cells] at he
    obtain ⟨rfl, rfl, rfl⟩ := he
    exact ⟨l, rfl, hc, hr, hw⟩
  subst e1
  obtain ⟨a2, rfl, rfl, rfl, w2⟩ := open_int Try.underlying3 (hval 2 3 v2 rfl rfl) h2
  obtain ⟨a3, len3, cap3, rfl⟩ := okWide_slice Try.underlying54 (hval 3 54 v3 rfl rfl)
  have k3 := h3
  have lt3 : ∀ x ∈ p3, x.block < W.heap.size := by obtain ⟨m, hm⟩ := k3; exact DataW.trod_lt m _ _ _ hm
  obtain ⟨l3, e3, hc3, hr3, w3⟩ : ∃ l : List Int, len3 = l.length ∧ l.length ≤ cap3 ∧ Kd.C (Kd.int .i64) W a3 l.length l ∧ (Wide.WfList (Wide.WfInt .i64)) l := by
    obtain ⟨fuel, hf⟩ := h3
    obtain ⟨l, ⟨A_, c_, he, hc, hr⟩, hw⟩ := ((Wide.opens_slice Try.underlying54 (by kernel_rfl) (Wide.opens_int Try.underlying3)) : Wide.Opens enc Try.prog W 54 _ _) fuel _ _ hf
    simp [Value.cells] at he
    obtain ⟨rfl, rfl, rfl⟩ := he
    exact ⟨l, rfl, hc, hr, hw⟩
  subst e3
  clear hA0 hval0 hsz0
  obtain ⟨k_, hP⟩ := Pure.FnExactCutActs y0.f0 l1 a2 l3 w0 w1 w2 w3
  refine (laws_FnExactCutActs.calls k_ _ _ y0.f0 _ _ l1 a2 _ _ l3 true W hr0_0 hc0_0 hr1 hc1 hr3 hc3 hP).mono ?_
  rintro e W' ⟨rfl, bel0⟩
  have bel : Below W.heap.size W W' := bel0
  exact ⟨_, rfl, _, _, _, [], _, [], hW', trodAll_mk1 (shut_bool Try.underlying4 _), (trodAll_cons_mk (Below.trod laidOut (by kernel_rfl) (of_decide_eq_true (by kernel_rfl)) k0 bel lt0) (trodAll_cons_mk (Below.trod laidOut (by kernel_rfl) (of_decide_eq_true (by kernel_rfl)) k1 bel lt1) (trodAll_cons_mk (shut_int Try.underlying3 w2) (trodAll_cons_mk (Below.trod laidOut (by kernel_rfl) (of_decide_eq_true (by kernel_rfl)) k3 bel lt3) trodAll_mk0)))), rfl, bel.frame _, fun h => by cases h⟩
theorem over : Rows.fnExactCutActsRow.holds Try.pinned (OpenSpec.ofChange Rows.fnExactCutActsSpec) :=
  OpenClaim.holds_of_wide 7 Try.f7 rfl rfl rfl rfl rfl rfl rfl ⟨rfl, rfl, rfl, rfl, rfl⟩ rfl rfl rfl rfl rfl (by kernel_rfl) Try.func7 (by kernel_rfl)
    (of_decide_eq_true (by kernel_rfl)) (by unfold Func.isWrapper; first | (rw [if_pos (by decide +kernel)]; kernel_rfl) | (rw [if_neg (by decide +kernel)]; exact ⟨rfl, rfl⟩))
    (fun os started H enc _ => lifted os started H enc)
theorem proved : Rows.FnExactCutActsSaid := over
#print axioms proved
end Go.Proofs.Ytnkldnkolcighaa.fnExactCutActs
namespace Go.Proofs.Ytnkldnkolcighaa
/-- The row, under a short name, for the claim. -/
theorem fnExactCutActs_holds : Rows.FnExactCutActsSaid := fnExactCutActs.proved
end Go.Proofs.Ytnkldnkolcighaa
