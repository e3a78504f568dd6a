import Derived.Test.YtnkldnkolcighaaXT
import Derived.Test.YtnkldnkolcighaaTWords
import Derived.Test.YtnkldnkolcighaaTLast
import Derived.Test.YtnkldnkolcighaaTMore
namespace Go.Proofs.Ytnkldnkolcighaa
open Go.RowKit Go.Proofs.YtnkldnkolcighaaT.PrintWords Go.Proofs.YtnkldnkolcighaaT.PrintLast Go.Proofs.YtnkldnkolcighaaT.PrintMore
/-! ### short names for what the walks say often -/
structure ExtP (w W : World) : Prop where
  blk : ∀ {g : Nat} {o : Obj}, w.heap[g]? = some o → W.heap[g]? = some o
  bel : ∀ {v : World}, Below v.heap.size v w → Below v.heap.size v W
instance (w : World) : Nonempty (ExtP w w) := ⟨⟨id, id⟩⟩
instance (w W : World) [e : Nonempty (ExtP w W)] : Nonempty (ExtP w W.drew) := e.elim fun e => ⟨⟨fun h => blk_drew (e.blk h), fun h => below_drew1 (e.bel h)⟩⟩
instance (w W : World) (n : Nat) [e : Nonempty (ExtP w W)] : Nonempty (ExtP w (W.drewN n)) := e.elim fun e => ⟨⟨fun h => blk_drewN (e.blk h) n, fun h => pw_below_drewN (e.bel h) n⟩⟩
instance (w W : World) (o : Obj) [e : Nonempty (ExtP w W)] : Nonempty (ExtP w (W.alloc o)) := e.elim fun e => ⟨⟨fun h => blk_alloc (e.blk h) o, fun h => below_alloc (e.bel h) o⟩⟩
theorem bk {w W : World} {g : Nat} {o : Obj} (h : Aside0 (w.heap[g]? = some o)) [e : Nonempty (ExtP w W)] : W.heap[g]? = some o := e.elim fun e => e.blk h.out
theorem hB {v w W : World} (h : Aside0 (Below v.heap.size v w)) [e : Nonempty (ExtP w W)] : Below v.heap.size v W := e.elim fun e => e.bel h.out
theorem bA {w W : World} (h : Below w.heap.size w W) (o : Obj) : Below w.heap.size w (W.alloc o) := below_alloc h o
theorem bN {B : Nat} {w W : World} (h : Below B w W) (n : Nat) : Below B w (W.drewN n) := pw_below_drewN h n
theorem bD {B : Nat} {w W : World} (h : Below B w W) : Below B w W.drew := below_drew1 h
theorem AM {p : Prop} (h : p) : Aside0 p := ⟨h⟩
theorem qT {α : Type} (l : List α) (i : Nat) (x : α) : l.toArray.setIfInBounds i x = (l.set i x).toArray := List.setIfInBounds_toArray ..
theorem q0 {α : Type} {x y : α} {l : List α} : (x :: l).set 0 y = y :: l := rfl
theorem qS {α : Type} {x y : α} {l : List α} {n : Nat} : (x :: l).set (n + 1) y = x :: l.set n y := rfl
theorem od {p : Prop} [Decidable p] (h : decide p = true := by assumption) : p := of_decide_eq_true h
theorem bm {α β : Type} {o : Option α} {f : α → Option β} {b : β} : o.bind f = some b → ∃ a, o = some a ∧ f a = some b := Option.bind_eq_some_iff.mp
theorem hS {p : Prop} (h : p := by repeat (first | (with_reducible first | exact HB.out | apply bA | apply bN | apply bD | refine below_set ?_ (Aside0.out (by assumption))) | exact HB.out)) : p := h
theorem aN {w : World} {g : Nat} {o : Obj} (h : w.heap[g]? = some o) (n : Nat) : (w.drewN n).heap[g]? = some o := blk_drewN h n
theorem aD {w : World} {g : Nat} {o : Obj} (h : w.heap[g]? = some o) : w.drew.heap[g]? = some o := blk_drew h
theorem aA {w : World} {g : Nat} {o : Obj} (h : w.heap[g]? = some o) (o' : Obj) : (w.alloc o').heap[g]? = some o := blk_alloc h o'
theorem be {p : Prop} (h : p := by repeat (first | (with_reducible first | refine aN ?_ _ | refine aD ?_ | refine aA ?_ _ | refine blk_far ?_ (Aside0.out (by assumption)) _) | exact Aside0.out (by assumption))) : p := h
theorem cl {w W : World} (h : Aside0 (Below w.heap.size w W)) {p : Addr} {v : Value} (hc : w.cell? p = some v) : W.cell? p = some v := (h.out.cell (World.block_lt_of_cell? w _ hc)).trans hc
theorem am {p : Prop} (h : p := by (try simp only [List.map_toArray, List.map_cons, List.map_nil]); first | done | rfl) : p := h
theorem bs {v w W : World} {g : Nat} (hg : g = W.heap.size) (h : Aside0 (Below v.heap.size v w)) [e : Nonempty (ExtP w W)] : v.heap.size ≤ g := hg ▸ below_size (hB h)
theorem bt {v W : World} {g : Nat} (hg : g = W.heap.size) (h : Below v.heap.size v W) : v.heap.size ≤ g := hg ▸ below_size h
theorem nl {W : World} {g g' : Nat} {o : Obj} (hg : g' = W.heap.size) (h : W.heap[g]? = some o) : g ≠ g' := by rw [hg]; exact Nat.ne_of_lt (blk_lt h)
theorem ng {W : World} {g g' : Nat} {o : Obj} (hg : g' = W.heap.size) (h : W.heap[g]? = some o) : g' ≠ g := fun e => nl hg h e.symm
theorem bv {w : World} {g : Nat} {t : TypeId} {cs : Array Value} (h : Aside0 (w.heap[g]? = some (.cells cs t (0, 0)))) (i : Nat) (v : Value) (e : cs[i]? = some v := by exact rfl) : w.cell? ⟨g, i, none⟩ = some v := (blk_cell h.out i).trans e
theorem bc {w : World} {g : Nat} {t : TypeId} {cs : Array Value} (h : Aside0 (w.heap[g]? = some (.cells cs t (0, 0)))) (i : Nat) {v : Value} (e : cs[i]? = some v := by exact rfl) : w.cell? ⟨g, i, none⟩ = some v := (blk_cell h.out i).trans e
theorem bw {w W w1 : World} {g : Nat} {o : Obj} (h : Aside0 (w.heap[g]? = some o)) (hb : Below W.heap.size W w1) [e : Nonempty (ExtP w W)] : Aside0 (w1.heap[g]? = some o) := ⟨blk_below (bk h) hb⟩
theorem bq {v w W w1 : World} (h : Aside0 (Below v.heap.size v w)) (hb : Below W.heap.size W w1) [e : Nonempty (ExtP w W)] : Aside0 (Below v.heap.size v w1) := ⟨below_step (hB h) hb⟩
theorem bz {w : World} {g : Nat} {t : TypeId} {cs : Array Value} (h : Aside0 (w.heap[g]? = some (.cells cs t (0, 0)))) (i : Nat) : w.frozen? ⟨g, i, none⟩ = false := blk_frozen h.out i
theorem er {p : Prop} (h : p := by first | rfl | (simp [errW_none, errW_some] <;> rfl) | (simp [*, errW_none, errW_some] <;> rfl)) : p := h
theorem sf {p : Prop} (h : p := by first | rfl | (simp; done) | (simp [*]; done)) : p := h
theorem cA {α : Type} {d : Kd α} {w : World} {xs : List α} {A : Option Addr} {n : Nat} (h : d.C w A n xs) (o : Obj) : d.C (w.alloc o) A n xs := Kd.C_alloc h o
theorem cN {α : Type} {d : Kd α} {w : World} {xs : List α} {A : Option Addr} {n : Nat} (h : d.C w A n xs) (m : Nat) : d.C (w.drewN m) A n xs := Kd.C_drewN h m
theorem cD {α : Type} {d : Kd α} {w : World} {xs : List α} {A : Option Addr} {n : Nat} (h : d.C w A n xs) : d.C w.drew A n xs := Kd.C_drew h
section
variable {P : Program} {ops : Array Oper} {rest : List Oper} {o : Oper} {a : Act} {Q : Exit → Act → World → Prop}
theorem gd (N : Tmp) (_hN : o.dst = some N) {W : World} (h : wpList P ops Q (o :: rest) a W) : wpList P ops Q (o :: rest) a W := h
theorem gc (f : FuncId) {as : Array Operand} {ts : Array TypeId} (_ho : o.op = .call { callee := .value (.func f), args := as, argTypes := ts }) {W : World} (h : wpList P ops Q (o :: rest) a W) : wpList P ops Q (o :: rest) a W := h
theorem bx {W : World} {N : Tmp} {cs : Array Value} {t : TypeId} (h : ∀ g, g = W.heap.size → ∀ w1, w1.heap[g]? = some (.cells cs t (0, 0)) → Below W.heap.size W w1 → wpList P ops Q rest (a.put o.dst (.pointer (some ⟨g, 0, none⟩))) w1)
    (hd : o.dst = some N := by rfl) (hg : o.guard = none := by rfl) (hr : (execOp a.eval o).run P W = .ok (.value (.pointer (some ⟨W.heap.size, 0, none⟩))) (W.alloc (.cells cs t (0, 0))) := by first | (go_simp; done) | (go_simp; rfl)) : wpList P ops Q (o :: rest) a W := box_event hg hd hr h
end
end Go.Proofs.Ytnkldnkolcighaa
