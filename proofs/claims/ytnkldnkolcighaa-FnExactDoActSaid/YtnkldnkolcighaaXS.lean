import Derived.Test.YtnkldnkolcighaaXV
import Derived.Test.YtnkldnkolcighaaVWords
import Derived.Test.YtnkldnkolcighaaVLast
import Derived.Test.YtnkldnkolcighaaVMore
namespace Go.Proofs.Ytnkldnkolcighaa
open Go.RowKit Go.Proofs.YtnkldnkolcighaaV.PrintWords Go.Proofs.YtnkldnkolcighaaV.PrintLast Go.Proofs.YtnkldnkolcighaaV.PrintMore
/-! ### short names for what the walks say often -/
structure ExtP (w W : World) : Prop where
  blk : ∀ {g : Nat} {o : Obj}, w.heap[g]? = some o → W.heap[g]? = some o
  bel : ∀ {v : World}, Below v.heap.size v w → Below v.heap.size v W
instance (w : World) : Nonempty (ExtP w w) := ⟨⟨id, id⟩⟩
instance (w W : World) [e : Nonempty (ExtP w W)] : Nonempty (ExtP w W.drew) := e.elim fun e => ⟨⟨fun h => blk_drew (e.blk h), fun h => below_drew1 (e.bel h)⟩⟩
instance (w W : World) (n : Nat) [e : Nonempty (ExtP w W)] : Nonempty (ExtP w (W.drewN n)) := e.elim fun e => ⟨⟨fun h => blk_drewN (e.blk h) n, fun h => pw_below_drewN (e.bel h) n⟩⟩
instance (w W : World) (o : Obj) [e : Nonempty (ExtP w W)] : Nonempty (ExtP w (W.alloc o)) := e.elim fun e => ⟨⟨fun h => blk_alloc (e.blk h) o, fun h => below_alloc (e.bel h) o⟩⟩
theorem bk {w W : World} {g : Nat} {o : Obj} (h : Aside0 (w.heap[g]? = some o)) [e : Nonempty (ExtP w W)] : W.heap[g]? = some o := e.elim fun e => e.blk h.out
theorem hB {v w W : World} (h : Aside0 (Below v.heap.size v w)) [e : Nonempty (ExtP w W)] : Below v.heap.size v W := e.elim fun e => e.bel h.out
theorem bA {w W : World} (h : Below w.heap.size w W) (o : Obj) : Below w.heap.size w (W.alloc o) := below_alloc h o
theorem bN {B : Nat} {w W : World} (h : Below B w W) (n : Nat) : Below B w (W.drewN n) := pw_below_drewN h n
theorem bD {B : Nat} {w W : World} (h : Below B w W) : Below B w W.drew := below_drew1 h
theorem AM {p : Prop} (h : p) : Aside0 p := ⟨h⟩
theorem qT {α : Type} (l : List α) (i : Nat) (x : α) : l.toArray.setIfInBounds i x = (l.set i x).toArray := List.setIfInBounds_toArray ..
theorem q0 {α : Type} {x y : α} {l : List α} : (x :: l).set 0 y = y :: l := rfl
theorem qS {α : Type} {x y : α} {l : List α} {n : Nat} : (x :: l).set (n + 1) y = x :: l.set n y := rfl
theorem od {p : Prop} [Decidable p] (h : decide p = true := by assumption) : p := of_decide_eq_true h
theorem bm {α β : Type} {o : Option α} {f : α → Option β} {b : β} : o.bind f = some b → ∃ a, o = some a ∧ f a = some b := Option.bind_eq_some_iff.mp
theorem hS {p : Prop} (h : p := by repeat (first | (with_reducible first | exact HB.out | apply bA | apply bN | apply bD | refine below_set ?_ (Aside0.out (by assumption))) | exact HB.out)) : p := h
end Go.Proofs.Ytnkldnkolcighaa
