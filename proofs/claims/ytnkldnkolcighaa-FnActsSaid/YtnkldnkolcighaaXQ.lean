/- Cut down by a program of this session (trim.py) from what the print wrote: what this claim does not use is left out. -/
import Derived.Test.YtnkldnkolcighaaQMore
import Derived.Lib.ConvBytes
import Derived.Lib.BufferWrite
set_option linter.unusedVariables false
set_option linter.unusedSimpArgs false
namespace Go.Proofs.YtnkldnkolcighaaQ.PrintLast
open Go.RowKit Go.Proofs.YtnkldnkolcighaaQ.PrintWords
section
variable {P : Program} {ops : Array Oper} {rest : List Oper} {o : Oper} {a : Act} {Q : Exit → Act → World → Prop} {W : World}
theorem gate_calleeT {T : Tmp} {as : Array Operand} {ts : Array TypeId} (_ho : o.op = .call { callee := .value (.tmp T), args := as, argTypes := ts }) (h : wpList P ops Q (o :: rest) a W) : wpList P ops Q (o :: rest) a W := h
end
theorem less_gtr : ∀ x y : List UInt8, (!(Op.bytesLess x y || x == y)) = Op.bytesLess y x
  | [], [] => rfl
  | [], b :: y => by simp [Op.bytesLess]
  | a :: x, [] => by simp [Op.bytesLess]
  | a :: x, b :: y => by
    have ih := less_gtr x y
    unfold Op.bytesLess
    by_cases h1 : a < b
    · have h2 : ¬ b < a := by
        have := UInt8.lt_iff_toNat_lt.1 h1
        intro h
        have := UInt8.lt_iff_toNat_lt.1 h
        omega
      have h3 : ¬ b = a := by rintro rfl; exact h2 h1
      simp [h1, h2, h3]
    · by_cases h2 : a = b
      · subst h2
        simp only [h1, decide_false, Bool.false_or, beq_self_eq_true, Bool.true_and]
        rw [← ih]
        simp
      · have h3 : b < a := by
          refine UInt8.lt_iff_toNat_lt.2 ?_
          have h4 : ¬ a.toNat < b.toNat := fun h => h1 (UInt8.lt_iff_toNat_lt.2 h)
          have h5 : a.toNat ≠ b.toNat := fun h => h2 (UInt8.toNat_inj.1 h)
          omega
        have h4 : ¬ b = a := fun h => h2 h.symm
        simp [h1, h2, h3, h4]
theorem str_gtr (t : TypeId) (a b : ByteArray) : binOp .gtr t (.string a) (.string b) = pure (.bool (Op.bytesLess b.toList a.toList)) := by rw [← less_gtr]; simp [binOp, Op.stringOp]
theorem str_geq (t : TypeId) (a b : ByteArray) : binOp .geq t (.string a) (.string b) = pure (.bool !(Op.bytesLess a.toList b.toList)) := by simp [binOp, Op.stringOp]
namespace Kf
def R (_d : Kd Int) (e : Nat) (w : World) (base : Nat) (ok : Nat → Prop) (v : Value) (xs : List Int) : Prop :=
  (∀ k, v.ownBlock = some k → ok k) ∧ ∃ g cap cells lo hi, v = .slice (some ⟨g, 0, none⟩) xs.length cap ∧ base ≤ g ∧ w.heap[g]? = some (.cells cells e (lo, hi)) ∧ xs.length ≤ lo ∧ xs.length ≤ cap ∧ cap ≤ maxLen ∧ cells.toList.take xs.length = nums .u8 xs
section
variable {d : Kd Int} {e : Nat} {w w1 W : World} {base : Nat} {ok ok' : Nat → Prop} {v : Value} {xs : List Int} {g n cap : Nat}
theorem R_step (h : R d e w base ok v xs) (hm : ∀ k, ok k → k < w.heap.size → w1.heap[k]? = w.heap[k]?) : R d e w1 base ok v xs := by
  obtain ⟨h0, g, cap, cells, lo, hi, rfl, hb, hh, r⟩ := h
  exact ⟨h0, g, cap, cells, lo, hi, rfl, hb, (hm g (h0 g (by simp [Value.ownBlock])) (Array.getElem?_eq_some_iff.1 hh).1).trans hh, r⟩
theorem R_below (h : R d e w base ok v xs) (hb : Below w.heap.size w w1) : R d e w1 base ok v xs := R_step h (fun k _ hk => hb.block k hk)
theorem R_alloc (h : R d e w base ok v xs) (o : Obj) : R d e (w.alloc o) base ok v xs := R_below h (below_alloc (Below.refl _ _) o)
theorem R_drew (h : R d e w base ok v xs) : R d e w.drew base ok v xs := R_below h (below_drew (Below.refl _ _))
theorem R_drewN (h : R d e w base ok v xs) (m : Nat) : R d e (w.drewN m) base ok v xs := R_below h (pw_below_drewN (Below.refl _ _) m)
theorem R_lower {base' : Nat} (h : R d e w base ok v xs) (hb : base' ≤ base) : R d e w base' ok v xs := by
  obtain ⟨h0, g, cap, cells, lo, hi, rfl, hg, r⟩ := h
  exact ⟨h0, g, cap, cells, lo, hi, rfl, Nat.le_trans hb hg, r⟩
theorem R_slice (h : R d e w base ok v xs) : ∃ A c, v = .slice A xs.length c := by
  obtain ⟨h0, g, cap, cells, lo, hi, rfl, _⟩ := h
  exact ⟨_, _, rfl⟩
theorem R_cell' (h : R d e w base ok (.slice (some ⟨g, 0, none⟩) n cap) xs) (i : Nat) (hi : i < xs.length) : w.cell? ⟨g, i, none⟩ = some (.int .u8 (xs.getD i 0)) ∧ w.frozen? ⟨g, i, none⟩ = false := by
  obtain ⟨h0, g', cap', cells, lo, hi', he, hb, hh, hlo, hc, hm, ht⟩ := h
  injection he with ha _ _
  injection ha with ha
  injection ha with ha
  subst ha
  constructor
  · have h1 : (cells.toList.take xs.length)[i]? = some (.int .u8 (xs.getD i 0)) := by
      rw [ht]
      simp [nums, List.getElem?_eq_getElem hi]
    rw [List.getElem?_take_of_lt hi, Array.getElem?_toList] at h1
    simp only [World.cell?, hh]
    exact h1
  · simp only [World.frozen?, hh, Bool.and_eq_false_iff, decide_eq_false_iff_not]
    left
    omega
theorem R_reads' {A : Option Addr} (h : R (Kd.int .u8) e w base ok (.slice A n cap) xs) : n = xs.length ∧ n ≤ cap ∧ (Kd.int .u8).C w A xs.length xs := by
  have h' := h
  obtain ⟨h0, g', cap', cells, lo, hi', he, hb, hh, hlo, hc, hm, ht⟩ := h'
  injection he with ha hn hcap
  subst hn hcap ha
  refine ⟨rfl, hc, rfl, ?_, fun hp => ⟨⟨g', 0, none⟩, rfl, fun j p hj => ⟨[.int .u8 p], rfl, rfl, fun i u hu => ?_⟩⟩⟩
  · simp only [maxLen] at hm
    omega
  · obtain ⟨hjl, hjp⟩ := List.getElem?_eq_some_iff.1 hj
    rcases i with _ | i
    · have hu' : Value.int .u8 p = u := by simpa using hu
      subst hu'
      have hx := (R_cell' h j hjl).1
      rw [List.getD_eq_getElem?_getD, hj] at hx
      simp only [Option.getD_some] at hx
      rw [add_plain]
      simpa [Kd.int, Kd.scalar] using hx
    · simp at hu
theorem R_form (h : R d e w base ok v xs) (_hp : 0 < xs.length) : ∃ g cap, v = .slice (some ⟨g, 0, none⟩) xs.length cap ∧ base ≤ g ∧ g < w.heap.size ∧ ∃ cells fz, w.heap[g]? = some (.cells cells e fz) := by
  obtain ⟨h0, g, cap, cells, lo, hi, rfl, hb, hh, r⟩ := h
  exact ⟨g, cap, rfl, hb, (Array.getElem?_eq_some_iff.1 hh).1, cells, _, hh⟩
theorem R_celln (d0 : Int) (h : R d e w base ok (.slice (some ⟨g, 0, none⟩) n cap) xs) (i : Int) (h0 : 0 ≤ i) (hi : i < n) : w.cell? ⟨g, i.toNat, none⟩ = some (.int .u8 (rdOf d0 xs i)) ∧ w.frozen? ⟨g, i.toNat, none⟩ = false := by
  have hn : n = xs.length := by
    obtain ⟨_, g', cap', cells, lo, hi', he, _⟩ := h
    injection he with _ hn _
  subst hn
  have hl : i.toNat < xs.length := by omega
  have hx := R_cell' h i.toNat hl
  have he : rdOf d0 xs i = xs.getD i.toNat 0 := by
    unfold rdOf
    simp [show ¬ i < 0 by omega, List.getD_eq_getElem?_getD, List.getElem?_eq_getElem hl]
  rw [he]
  exact hx
theorem R_putg (h : R d e w base ok (.slice (some ⟨g, 0, none⟩) n cap) xs) (i : Int) (x : Int) : R d e (w.setCell ⟨g, i.toNat, none⟩ (.int .u8 x)) base ok (.slice (some ⟨g, 0, none⟩) n cap) (xs.set i.toNat x) ∧ w.grownBy (w.setCell ⟨g, i.toNat, none⟩ (.int .u8 x)) (some g) := by
  obtain ⟨h0, g', cap', cells, lo, hi', he, hb, hh, hlo, hc, hm, ht⟩ := h
  injection he with ha hn hcap
  subst hn hcap
  injection ha with ha
  injection ha with ha
  subst ha
  refine ⟨⟨h0, g, cap, cells.setIfInBounds i.toNat (.int .u8 x), lo, hi', by rw [List.length_set], hb, ?_, by rw [List.length_set]; exact hlo, by rw [List.length_set]; exact hc, hm, ?_⟩, rfl, rfl, rfl, by simp [World.setCell], fun k _ hk => Below.heap_setCell _ _ _ _ (fun e => hk (by simp [e]))⟩
  · simp [World.setCell, Array.getElem?_modify, hh]
  · rw [List.length_set, Array.toList_setIfInBounds, List.take_set, ht]
    simp [nums, List.map_set]
theorem types {α : Type} {d : Kd α} {xs : List α} {t : Nat} {cells : Array Value} (h : d.R e w base ok v xs) (hb : ∃ fz, w.heap[g]? = some (.cells cells t fz)) (ht : ∀ q, q ∈ e :: d.E → q ≠ t) : d.R e w base (fun k => ok k ∧ k ≠ g) v xs :=
  Kd.R_mono (Kd.R_bound h) (fun k hk => ⟨hk.1, by
    obtain ⟨_, _, _, q, hq, cells', hc⟩ := hk
    rintro rfl
    obtain ⟨fz, hb⟩ := hb
    rw [hc] at hb
    injection hb with hb
    injection hb with _ hb
    exact ht q hq hb⟩)
theorem own_string {P : Program} {src dst : TypeId} (hs : P.underlying src = some (.slice e)) (he : P.underlying e = some (.int .u8)) (hd : P.underlying dst = some .string) (h : R d e w base ok v xs) : (convert src dst v).run P w = .ok (.string (strOfNums xs)) w := by
  have h' := h
  obtain ⟨h0, g, cap, cells, lo, hi', rfl, hb, hh, r⟩ := h'
  refine run_convert_bytes_arg w src e hs he g 0 xs.length cap xs rfl (fun i hi => ?_) dst hd
  rw [Nat.zero_add]
  exact (R_cell' h i hi).1
end
section
variable {P : Program} {ops : Array Oper} {rest : List Oper} {o : Oper} {a : Act} {Q : Exit → Act → World → Prop}
end
end Kf
section
variable {P : Program} {ops : Array Oper} {rest : List Oper} {o : Oper} {a : Act} {Q : Exit → Act → World → Prop}
end
end Go.Proofs.YtnkldnkolcighaaQ.PrintLast
