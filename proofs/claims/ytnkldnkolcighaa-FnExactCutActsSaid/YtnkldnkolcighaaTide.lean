/- Cut down by a program of this session (trim.py) from what the print wrote: what this claim does not use is left out. -/
import Derived.Test.YtnkldnkolcighaaTf
import Derived.Deep.Slices
import Derived.ProofKit
import Derived.WideShapes
set_option linter.unusedVariables false
namespace Go.Proofs.Ytnkldnkolcighaa.Wide
open Go.RowKit Go.Proofs.YtnkldnkolcighaaT.PrintWords
section
variable {H : Type} {enc : TypeId × Value → H} {P : Program} {w : World} {α β γ δ : Type}
def Opens (enc : TypeId × Value → H) (P : Program) (w : World) (t : TypeId) (d : Kd α) (Wf : α → Prop) : Prop :=
  ∀ (fuel : Nat) (cs : List Value) (x : DataW H × List MemPlace), DataW.trod enc P w 0 (fun _ => true) true fuel t cs = some x → ∃ y, d.K w y cs ∧ Wf y
theorem opens_int {t : TypeId} {k : IntKind} (ht : P.underlying t = some (.int k)) : Opens enc P w t (Kd.int k) (WfInt k) := by
  intro fuel cs x h
  obtain ⟨n, rfl, _, hw⟩ := DataW.trod_int ht h
  exact ⟨n, rfl, hw⟩
theorem opens_string {t : TypeId} (ht : P.underlying t = some .string) : Opens enc P w t Kd.string WfStr := by
  intro fuel cs x h
  obtain ⟨s, rfl, _, hw⟩ := DataW.trod_string ht h
  exact ⟨s, rfl, hw⟩
theorem opens_slice [Inhabited α] {t e : TypeId} {d : Kd α} {Wf : α → Prop} (ht : P.underlying t = some (.slice e)) (he : P.cellsOf e = d.sz) (h : Opens enc P w e d Wf) : Opens enc P w t (Kd.slice e d) (WfList Wf) := by
  intro fuel cs x hx
  rcases Go.Deep.open_slice ht hx with ⟨rfl, _⟩ | ⟨a, len, cap, m, n, D, Pl, rfl, _, hl, hm, hmm, _, hel⟩
  · exact ⟨[], ⟨none, 0, rfl, Nat.le_refl _, ⟨rfl, by simp, fun hn => absurd hn (by simp)⟩⟩, ⟨by simp, by simp⟩⟩
  · simp only [if_true] at hmm
    obtain ⟨Y, hY⟩ := Go.Deep.choose_lt (α := α) (n := len) (p := fun i y => ∃ cs', w.cells? 0 (a.add (i * P.cellsOf e)) (P.cellsOf e) = some cs' ∧ d.K w y cs' ∧ Wf y) (fun i hi => by
      obtain ⟨cs', h1, h2⟩ := hel i (by omega)
      obtain ⟨y, hk, hw⟩ := h _ _ _ h2
      exact ⟨y, cs', h1, hk, hw⟩)
    have hlen : ((List.range len).map Y).length = len := by simp
    refine ⟨(List.range len).map Y, ⟨some a, cap, by rw [hlen], by rw [hlen]; exact hl, ⟨rfl, by rw [hlen]; simp only [maxLen] at hm; omega, fun _ => ⟨a, rfl, ?_⟩⟩⟩, ⟨by rw [hlen]; omega, ?_⟩⟩
    · intro j p hj
      have hjl : j < len := by
        have := (List.getElem?_eq_some_iff.1 hj).1
        rwa [hlen] at this
      have hp : Y j = p := by
        rw [List.getElem?_map, List.getElem?_range hjl] at hj
        simpa using hj
      obtain ⟨cs', h1, h2, _⟩ := hY j hjl
      rw [he] at h1
      obtain ⟨_, h3, h4⟩ := World.cells?_some h1
      refine ⟨cs', h3, by rw [← hp]; exact h2, fun i u hu => ?_⟩
      have h5 := h4 i (by have := (List.getElem?_eq_some_iff.1 hu).1; omega)
      rw [← Go.Deep.add_add, h5]
      exact hu
    · intro y hy
      obtain ⟨i, hi, rfl⟩ := List.mem_map.1 hy
      obtain ⟨_, _, _, h3⟩ := hY i (List.mem_range.1 hi)
      exact h3
theorem opens_iso {t : TypeId} {d : Kd α} {Wf : α → Prop} (f : β → α) (g : α → β) (hg : ∀ a, f (g a) = a) (h : Opens enc P w t d Wf) : Opens enc P w t (Kd.iso d f) (fun b => Wf (f b)) := by
  intro fuel cs x hx
  obtain ⟨y, hk, hw⟩ := h fuel cs x hx
  refine ⟨g y, ?_, by show Wf (f (g y)); rw [hg]; exact hw⟩
  show d.K w (f (g y)) cs
  rw [hg]
  exact hk
def OneCells (P : Program) (fs : Array Field) : Prop := (List.range fs.size).all (fun i => match fs[i]? with | some f => f.offset == i && P.cellsOf f.type == 1 | none => false) = true
theorem oneCells_at {fs : Array Field} (h : OneCells P fs) {i : Nat} {f : Field} (hf : fs[i]? = some f) : f.offset = i ∧ P.cellsOf f.type = 1 := by
  have hi : i < fs.size := (Array.getElem?_eq_some_iff.1 hf).1
  have h1 := List.all_eq_true.1 h i (List.mem_range.2 hi)
  rw [hf] at h1
  simpa using h1
theorem struct_fields {t : TypeId} {fs : Array Field} (ht : P.underlying t = some (.struct fs)) (h1 : OneCells P fs) (hc : P.cellsOf t = fs.size) {fuel : Nat} {cs : List Value} {x : DataW H × List MemPlace}
    (h : DataW.trod enc P w 0 (fun _ => true) true fuel t cs = some x) : cs.length = fs.size ∧ ∀ (i : Nat) (f : Field), fs[i]? = some f → ∃ n y u, cs[i]? = some u ∧ DataW.trod enc P w 0 (fun _ => true) true n f.type [u] = some y := by
  obtain ⟨xs, n, _, _, hl, hxl, hx⟩ := DataW.trod_struct ht h
  refine ⟨by rw [hl, hc], fun i f hf => ?_⟩
  obtain ⟨ho, hone⟩ := oneCells_at h1 hf
  have hi : i < fs.size := (Array.getElem?_eq_some_iff.1 hf).1
  have h2 := hx i f hf
  rw [ho, hone] at h2
  have hil : i < cs.length := by rw [hl, hc]; exact hi
  have hd : (cs.drop i).take 1 = [cs[i]] := by rw [List.drop_eq_getElem_cons hil]; rfl
  rw [hd, List.getElem?_eq_getElem (by rw [hxl]; exact hi)] at h2
  exact ⟨n, _, cs[i], List.getElem?_eq_getElem hil, h2⟩
theorem opens_struct1 {t : TypeId} {f0 : Field} {a : Kd α} {Wa : α → Prop} (ht : P.underlying t = some (.struct #[f0])) (h1 : OneCells P #[f0]) (hc : P.cellsOf t = 1)
    (ha : Opens enc P w f0.type a Wa) : Opens enc P w t a Wa := by
  intro fuel cs x h
  obtain ⟨hl, hf⟩ := struct_fields ht h1 hc h
  obtain ⟨n0, y0, u0, e0, g0⟩ := hf 0 f0 rfl
  match cs, hl with
  | [c0], _ =>
    simp only [List.getElem?_cons_zero, Option.some.injEq] at e0
    subst e0
    exact ha _ _ _ g0
theorem opens_struct3 {t : TypeId} {f0 f1 f2 : Field} {a : Kd α} {b : Kd β} {c : Kd γ} {Wa : α → Prop} {Wb : β → Prop} {Wc : γ → Prop} (ht : P.underlying t = some (.struct #[f0, f1, f2])) (h1 : OneCells P #[f0, f1, f2]) (hc : P.cellsOf t = 3)
    (ha : Opens enc P w f0.type a Wa) (hb : Opens enc P w f1.type b Wb) (hcc : Opens enc P w f2.type c Wc) : Opens enc P w t (Kd.pair a (Kd.pair b c)) (fun y => Wa y.1 ∧ Wb y.2.1 ∧ Wc y.2.2) := by
  intro fuel cs x h
  obtain ⟨hl, hf⟩ := struct_fields ht h1 hc h
  obtain ⟨n0, y0, u0, e0, g0⟩ := hf 0 f0 rfl
  obtain ⟨n1, y1, u1, e1, g1⟩ := hf 1 f1 rfl
  obtain ⟨n2, y2, u2, e2, g2⟩ := hf 2 f2 rfl
  obtain ⟨z0, k0, w0⟩ := ha _ _ _ g0
  obtain ⟨z1, k1, w1⟩ := hb _ _ _ g1
  obtain ⟨z2, k2, w2⟩ := hcc _ _ _ g2
  match cs, hl with
  | [c0, c1, c2], _ =>
    simp only [List.getElem?_cons_zero, List.getElem?_cons_succ, Option.some.injEq] at e0 e1 e2
    subst e0 e1 e2
    exact ⟨(z0, z1, z2), ⟨[c0], [c1, c2], rfl, k0, ⟨[c1], [c2], rfl, k1, k2⟩⟩, w0, w1, w2⟩
theorem opens_struct4 {t : TypeId} {f0 f1 f2 f3 : Field} {a : Kd α} {b : Kd β} {c : Kd γ} {d : Kd δ} {Wa : α → Prop} {Wb : β → Prop} {Wc : γ → Prop} {Wd : δ → Prop} (ht : P.underlying t = some (.struct #[f0, f1, f2, f3])) (h1 : OneCells P #[f0, f1, f2, f3]) (hc : P.cellsOf t = 4)
    (ha : Opens enc P w f0.type a Wa) (hb : Opens enc P w f1.type b Wb) (hcc : Opens enc P w f2.type c Wc) (hd : Opens enc P w f3.type d Wd) : Opens enc P w t (Kd.pair a (Kd.pair b (Kd.pair c d))) (fun y => Wa y.1 ∧ Wb y.2.1 ∧ Wc y.2.2.1 ∧ Wd y.2.2.2) := by
  intro fuel cs x h
  obtain ⟨hl, hf⟩ := struct_fields ht h1 hc h
  obtain ⟨n0, y0, u0, e0, g0⟩ := hf 0 f0 rfl
  obtain ⟨n1, y1, u1, e1, g1⟩ := hf 1 f1 rfl
  obtain ⟨n2, y2, u2, e2, g2⟩ := hf 2 f2 rfl
  obtain ⟨n3, y3, u3, e3, g3⟩ := hf 3 f3 rfl
  obtain ⟨z0, k0, w0⟩ := ha _ _ _ g0
  obtain ⟨z1, k1, w1⟩ := hb _ _ _ g1
  obtain ⟨z2, k2, w2⟩ := hcc _ _ _ g2
  obtain ⟨z3, k3, w3⟩ := hd _ _ _ g3
  match cs, hl with
  | [c0, c1, c2, c3], _ =>
    simp only [List.getElem?_cons_zero, List.getElem?_cons_succ, Option.some.injEq] at e0 e1 e2 e3
    subst e0 e1 e2 e3
    exact ⟨(z0, z1, z2, z3), ⟨[c0], [c1, c2, c3], rfl, k0, ⟨[c1], [c2, c3], rfl, k1, ⟨[c2], [c3], rfl, k2, k3⟩⟩⟩, w0, w1, w2, w3⟩
end
end Go.Proofs.Ytnkldnkolcighaa.Wide
