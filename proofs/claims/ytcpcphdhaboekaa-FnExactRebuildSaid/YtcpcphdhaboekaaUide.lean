/- Cut down by a program of this session (trim.py) from what the print wrote: what this claim does not use is left out. -/
import Derived.Test.YtcpcphdhaboekaaUf
import Derived.Deep.Slices
import Derived.ProofKit
import Derived.WideShapes
set_option linter.unusedVariables false
namespace Go.Proofs.Ytcpcphdhaboekaa.Wide
open Go.RowKit Go.Proofs.YtcpcphdhaboekaaU.PrintWords
section
variable {H : Type} {enc : TypeId × Value → H} {P : Program} {w : World} {α β γ δ : Type}
def Opens (enc : TypeId × Value → H) (P : Program) (w : World) (t : TypeId) (d : Kd α) (Wf : α → Prop) : Prop :=
  ∀ (fuel : Nat) (cs : List Value) (x : DataW H × List MemPlace), DataW.trod enc P w 0 (fun _ => true) true fuel t cs = some x → ∃ y, d.K w y cs ∧ Wf y
theorem opens_string {t : TypeId} (ht : P.underlying t = some .string) : Opens enc P w t Kd.string WfStr := by
  intro fuel cs x h
  obtain ⟨s, rfl, _, hw⟩ := DataW.trod_string ht h
  exact ⟨s, rfl, hw⟩
theorem opens_bool {t : TypeId} (ht : P.underlying t = some .bool) : Opens enc P w t Kd.bool WfBool := by
  intro fuel cs x h
  cases fuel with
  | zero => simp [DataW.trod] at h
  | succ n =>
    unfold DataW.trod at h
    rw [ht] at h
    obtain ⟨b, rfl⟩ : ∃ b, cs = [Value.bool b] := by
      split at h <;> first | exact ⟨_, rfl⟩ | simp_all
    exact ⟨b, rfl, trivial⟩
theorem opens_slice [Inhabited α] {t e : TypeId} {d : Kd α} {Wf : α → Prop} (ht : P.underlying t = some (.slice e)) (he : P.cellsOf e = d.sz) (h : Opens enc P w e d Wf) : Opens enc P w t (Kd.slice e d) (WfList Wf) := by
  intro fuel cs x hx
  rcases Go.Deep.open_slice ht hx with ⟨rfl, _⟩ | ⟨a, len, cap, m, n, D, Pl, rfl, _, hl, hm, hmm, _, hel⟩
  · exact ⟨[], ⟨none, 0, rfl, Nat.le_refl _, ⟨rfl, by simp, fun hn => absurd hn (by simp)⟩⟩, ⟨by simp, by simp⟩⟩
  · simp only [if_true] at hmm
    obtain ⟨Y, hY⟩ := Go.Deep.choose_lt (α := α) (n := len) (p := fun i y => ∃ cs', w.cells? 0 (a.add (i * P.cellsOf e)) (P.cellsOf e) = some cs' ∧ d.K w y cs' ∧ Wf y) (fun i hi => by
      obtain ⟨cs', h1, h2⟩ := hel i (by omega)
      obtain ⟨y, hk, hw⟩ := h _ _ _ h2
      exact ⟨y, cs', h1, hk, hw⟩)
    have hlen : ((List.range len).map Y).length = len := by simp
    refine ⟨(List.range len).map Y, ⟨some a, cap, by rw [hlen], by rw [hlen]; exact hl, ⟨rfl, by rw [hlen]; simp only [maxLen] at hm; omega, fun _ => ⟨a, rfl, ?_⟩⟩⟩, ⟨by rw [hlen]; omega, ?_⟩⟩
    · intro j p hj
      have hjl : j < len := by
        have := (List.getElem?_eq_some_iff.1 hj).1
        rwa [hlen] at this
      have hp : Y j = p := by
        rw [List.getElem?_map, List.getElem?_range hjl] at hj
        simpa using hj
      obtain ⟨cs', h1, h2, _⟩ := hY j hjl
      rw [he] at h1
      obtain ⟨_, h3, h4⟩ := World.cells?_some h1
      refine ⟨cs', h3, by rw [← hp]; exact h2, fun i u hu => ?_⟩
      have h5 := h4 i (by have := (List.getElem?_eq_some_iff.1 hu).1; omega)
      rw [← Go.Deep.add_add, h5]
      exact hu
    · intro y hy
      obtain ⟨i, hi, rfl⟩ := List.mem_map.1 hy
      obtain ⟨_, _, _, h3⟩ := hY i (List.mem_range.1 hi)
      exact h3
end
end Go.Proofs.Ytcpcphdhaboekaa.Wide
