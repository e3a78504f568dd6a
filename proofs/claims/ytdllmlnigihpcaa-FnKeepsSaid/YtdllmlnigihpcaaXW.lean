/- Rows that a conversion of a text made; a copy from a text; a call through a function value that captures nothing. -/
import Derived.Test.YtdllmlnigihpcaaWMore
import Derived.Lib.ConvBytes
import Derived.Lib.BufferWrite
set_option linter.unusedVariables false
set_option linter.unusedSimpArgs false
namespace Go.Proofs.YtdllmlnigihpcaaW.PrintLast
open Go.RowKit Go.Proofs.YtdllmlnigihpcaaW.PrintWords
section
variable {P : Program} {ops : Array Oper} {rest : List Oper} {o : Oper} {a : Act} {Q : Exit → Act → World → Prop} {W : World}
/-- The operation is a call through the value in this slot. -/
theorem gate_calleeT {T : Tmp} {as : Array Operand} {ts : Array TypeId} (_ho : o.op = .call { callee := .value (.tmp T), args := as, argTypes := ts }) (h : wpList P ops Q (o :: rest) a W) : wpList P ops Q (o :: rest) a W := h
/-- A call through a function value that captures nothing. -/
theorem goesT_ (T : Tmp) {oi : Oper} {w : World} (N : Option Tmp) (hd : oi.dst = N) (hg : oi.guard = none) {f : FuncId} (hT : a.eval (.tmp T) = .func (.func f) #[] #[]) {fn : Func} {as : Array Operand} {ts : Array TypeId} (hf : P.funcs[f]? = some fn) (hname : (fn.name == "runtime.NumGoroutine") = false) (hb : fn.body.isSome = true) (args : Array Value)
    (hop : oi.op = .call { callee := .value (.tmp T), args := as, argTypes := ts }) (hargs : as.map a.eval = args)
    (h : Calls P f args w fun e w' => ∃ v, e = .returned v ∧ wpList P ops Q rest (a.put N v) w') : wpList P ops Q (oi :: rest) a w := by
  refine wpList_plain hg fun K hK => ?_
  have he := enters_ hf hname hb args w
  have hrun : (execOp a.eval oi).run P w = .ok (.enter f args) w := by
    unfold execOp
    simp [hop, resolve, hT, Deferred.ofValue, invoke, hargs, he]
  unfold Oper.wp
  rw [hrun, Oper.upon_enter]
  refine h.mono fun e w'' hh => ?_
  obtain ⟨v, rfl, hk⟩ := hh
  subst hd
  exact hK _ _ hk
end
/-! ### '>' and '>=' of texts, as the print tells them -/
theorem less_gtr : ∀ x y : List UInt8, (!(Op.bytesLess x y || x == y)) = Op.bytesLess y x
  | [], [] => rfl
  | [], b :: y => by simp [Op.bytesLess]
  | a :: x, [] => by simp [Op.bytesLess]
  | a :: x, b :: y => by
    have ih := less_gtr x y
    unfold Op.bytesLess
    by_cases h1 : a < b
    · have h2 : ¬ b < a := by
        have := UInt8.lt_iff_toNat_lt.1 h1
        intro h
        have := UInt8.lt_iff_toNat_lt.1 h
        omega
      have h3 : ¬ b = a := by rintro rfl; exact h2 h1
      simp [h1, h2, h3]
    · by_cases h2 : a = b
      · subst h2
        simp only [h1, decide_false, Bool.false_or, beq_self_eq_true, Bool.true_and]
        rw [← ih]
        simp
      · have h3 : b < a := by
          refine UInt8.lt_iff_toNat_lt.2 ?_
          have h4 : ¬ a.toNat < b.toNat := fun h => h1 (UInt8.lt_iff_toNat_lt.2 h)
          have h5 : a.toNat ≠ b.toNat := fun h => h2 (UInt8.toNat_inj.1 h)
          omega
        have h4 : ¬ b = a := fun h => h2 h.symm
        simp [h1, h2, h3, h4]
theorem str_gtr (t : TypeId) (a b : ByteArray) : binOp .gtr t (.string a) (.string b) = pure (.bool (Op.bytesLess b.toList a.toList)) := by rw [← less_gtr]; simp [binOp, Op.stringOp]
theorem str_geq (t : TypeId) (a b : ByteArray) : binOp .geq t (.string a) (.string b) = pure (.bool !(Op.bytesLess a.toList b.toList)) := by simp [binOp, Op.stringOp]
/-! ### rows that a conversion of a text made: as the print's rows of the call's own, the block's mark lies behind the elements -/
def copyS (xs : List Int) (y : ByteArray) : List Int := bytesOf y ++ xs.drop y.size
namespace Kf
def R (_d : Kd Int) (e : Nat) (w : World) (base : Nat) (ok : Nat → Prop) (v : Value) (xs : List Int) : Prop :=
  (∀ k, v.ownBlock = some k → ok k) ∧ ∃ g cap cells lo hi, v = .slice (some ⟨g, 0, none⟩) xs.length cap ∧ base ≤ g ∧ w.heap[g]? = some (.cells cells e (lo, hi)) ∧ xs.length ≤ lo ∧ xs.length ≤ cap ∧ cap ≤ maxLen ∧ cells.toList.take xs.length = nums .u8 xs
section
variable {d : Kd Int} {e : Nat} {w w1 W : World} {base : Nat} {ok ok' : Nat → Prop} {v : Value} {xs : List Int} {g n cap : Nat}
theorem R_step (h : R d e w base ok v xs) (hm : ∀ k, ok k → k < w.heap.size → w1.heap[k]? = w.heap[k]?) : R d e w1 base ok v xs := by
  obtain ⟨h0, g, cap, cells, lo, hi, rfl, hb, hh, r⟩ := h
  exact ⟨h0, g, cap, cells, lo, hi, rfl, hb, (hm g (h0 g (by simp [Value.ownBlock])) (Array.getElem?_eq_some_iff.1 hh).1).trans hh, r⟩
theorem R_below (h : R d e w base ok v xs) (hb : Below w.heap.size w w1) : R d e w1 base ok v xs := R_step h (fun k _ hk => hb.block k hk)
theorem R_alloc (h : R d e w base ok v xs) (o : Obj) : R d e (w.alloc o) base ok v xs := R_below h (below_alloc (Below.refl _ _) o)
theorem R_drew (h : R d e w base ok v xs) : R d e w.drew base ok v xs := R_below h (below_drew (Below.refl _ _))
theorem R_drewN (h : R d e w base ok v xs) (m : Nat) : R d e (w.drewN m) base ok v xs := R_below h (pw_below_drewN (Below.refl _ _) m)
theorem R_lower {base' : Nat} (h : R d e w base ok v xs) (hb : base' ≤ base) : R d e w base' ok v xs := by
  obtain ⟨h0, g, cap, cells, lo, hi, rfl, hg, r⟩ := h
  exact ⟨h0, g, cap, cells, lo, hi, rfl, Nat.le_trans hb hg, r⟩
theorem R_slice (h : R d e w base ok v xs) : ∃ A c, v = .slice A xs.length c := by
  obtain ⟨h0, g, cap, cells, lo, hi, rfl, _⟩ := h
  exact ⟨_, _, rfl⟩
theorem R_cell' (h : R d e w base ok (.slice (some ⟨g, 0, none⟩) n cap) xs) (i : Nat) (hi : i < xs.length) : w.cell? ⟨g, i, none⟩ = some (.int .u8 (xs.getD i 0)) ∧ w.frozen? ⟨g, i, none⟩ = false := by
  obtain ⟨h0, g', cap', cells, lo, hi', he, hb, hh, hlo, hc, hm, ht⟩ := h
  injection he with ha _ _
  injection ha with ha
  injection ha with ha
  subst ha
  constructor
  · have h1 : (cells.toList.take xs.length)[i]? = some (.int .u8 (xs.getD i 0)) := by
      rw [ht]
      simp [nums, List.getElem?_eq_getElem hi]
    rw [List.getElem?_take_of_lt hi, Array.getElem?_toList] at h1
    simp only [World.cell?, hh]
    exact h1
  · simp only [World.frozen?, hh, Bool.and_eq_false_iff, decide_eq_false_iff_not]
    left
    omega
theorem R_reads' {A : Option Addr} (h : R (Kd.int .u8) e w base ok (.slice A n cap) xs) : n = xs.length ∧ n ≤ cap ∧ (Kd.int .u8).C w A xs.length xs := by
  have h' := h
  obtain ⟨h0, g', cap', cells, lo, hi', he, hb, hh, hlo, hc, hm, ht⟩ := h'
  injection he with ha hn hcap
  subst hn hcap ha
  refine ⟨rfl, hc, rfl, ?_, fun hp => ⟨⟨g', 0, none⟩, rfl, fun j p hj => ⟨[.int .u8 p], rfl, rfl, fun i u hu => ?_⟩⟩⟩
  · simp only [maxLen] at hm
    omega
  · obtain ⟨hjl, hjp⟩ := List.getElem?_eq_some_iff.1 hj
    rcases i with _ | i
    · have hu' : Value.int .u8 p = u := by simpa using hu
      subst hu'
      have hx := (R_cell' h j hjl).1
      rw [List.getD_eq_getElem?_getD, hj] at hx
      simp only [Option.getD_some] at hx
      rw [add_plain]
      simpa [Kd.int, Kd.scalar] using hx
    · simp at hu
theorem R_form (h : R d e w base ok v xs) (_hp : 0 < xs.length) : ∃ g cap, v = .slice (some ⟨g, 0, none⟩) xs.length cap ∧ base ≤ g ∧ g < w.heap.size ∧ ∃ cells fz, w.heap[g]? = some (.cells cells e fz) := by
  obtain ⟨h0, g, cap, cells, lo, hi, rfl, hb, hh, r⟩ := h
  exact ⟨g, cap, rfl, hb, (Array.getElem?_eq_some_iff.1 hh).1, cells, _, hh⟩
theorem R_celln (d0 : Int) (h : R d e w base ok (.slice (some ⟨g, 0, none⟩) n cap) xs) (i : Int) (h0 : 0 ≤ i) (hi : i < n) : w.cell? ⟨g, i.toNat, none⟩ = some (.int .u8 (rdOf d0 xs i)) ∧ w.frozen? ⟨g, i.toNat, none⟩ = false := by
  have hn : n = xs.length := by
    obtain ⟨_, g', cap', cells, lo, hi', he, _⟩ := h
    injection he with _ hn _
  subst hn
  have hl : i.toNat < xs.length := by omega
  have hx := R_cell' h i.toNat hl
  have he : rdOf d0 xs i = xs.getD i.toNat 0 := by
    unfold rdOf
    simp [show ¬ i < 0 by omega, List.getD_eq_getElem?_getD, List.getElem?_eq_getElem hl]
  rw [he]
  exact hx
theorem R_putg (h : R d e w base ok (.slice (some ⟨g, 0, none⟩) n cap) xs) (i : Int) (x : Int) : R d e (w.setCell ⟨g, i.toNat, none⟩ (.int .u8 x)) base ok (.slice (some ⟨g, 0, none⟩) n cap) (xs.set i.toNat x) ∧ w.grownBy (w.setCell ⟨g, i.toNat, none⟩ (.int .u8 x)) (some g) := by
  obtain ⟨h0, g', cap', cells, lo, hi', he, hb, hh, hlo, hc, hm, ht⟩ := h
  injection he with ha hn hcap
  subst hn hcap
  injection ha with ha
  injection ha with ha
  subst ha
  refine ⟨⟨h0, g, cap, cells.setIfInBounds i.toNat (.int .u8 x), lo, hi', by rw [List.length_set], hb, ?_, by rw [List.length_set]; exact hlo, by rw [List.length_set]; exact hc, hm, ?_⟩, rfl, rfl, rfl, by simp [World.setCell], fun k _ hk => Below.heap_setCell _ _ _ _ (fun e => hk (by simp [e]))⟩
  · simp [World.setCell, Array.getElem?_modify, hh]
  · rw [List.length_set, Array.toList_setIfInBounds, List.take_set, ht]
    simp [nums, List.map_set]
theorem R_putn (h : R d e w base ok (.slice (some ⟨g, 0, none⟩) n cap) xs) (i : Int) (x : Int) : R d e (w.setCell ⟨g, i.toNat, none⟩ (.int .u8 x)) base ok (.slice (some ⟨g, 0, none⟩) n cap) (xs.set i.toNat x) := (R_putg h i x).1
theorem types {α : Type} {d : Kd α} {xs : List α} {t : Nat} {cells : Array Value} (h : d.R e w base ok v xs) (hb : ∃ fz, w.heap[g]? = some (.cells cells t fz)) (ht : ∀ q, q ∈ e :: d.E → q ≠ t) : d.R e w base (fun k => ok k ∧ k ≠ g) v xs :=
  Kd.R_mono (Kd.R_bound h) (fun k hk => ⟨hk.1, by
    obtain ⟨_, _, _, q, hq, cells', hc⟩ := hk
    rintro rfl
    obtain ⟨fz, hb⟩ := hb
    rw [hc] at hb
    injection hb with hb
    injection hb with _ hb
    exact ht q hq hb⟩)
theorem own_string {P : Program} {src dst : TypeId} (hs : P.underlying src = some (.slice e)) (he : P.underlying e = some (.int .u8)) (hd : P.underlying dst = some .string) (h : R d e w base ok v xs) : (convert src dst v).run P w = .ok (.string (strOfNums xs)) w := by
  have h' := h
  obtain ⟨h0, g, cap, cells, lo, hi', rfl, hb, hh, r⟩ := h'
  refine run_convert_bytes_arg w src e hs he g 0 xs.length cap xs rfl (fun i hi => ?_) dst hd
  rw [Nat.zero_add]
  exact (R_cell' h i hi).1
end
section
variable {P : Program} {ops : Array Oper} {rest : List Oper} {o : Oper} {a : Act} {Q : Exit → Act → World → Prop}
theorem below_grown0 {B : Nat} {w0 W w1 : World} (hB : Below B w0 W) (hg : W.grownBy w1 none) (hb : B ≤ W.heap.size) : Below B w0 w1 := hB.grown hg hb (fun k hk => by simp at hk)
theorem R_conv (d : Kd Int) {w0 W : World} (base e : Nat) (hgd : o.guard = none) {N : Tmp} (_hd : o.dst = some N) (src dst : TypeId) (x : Operand) (ho : o.op = .convert src dst x) (s : ByteArray) (hx : a.eval x = .string s)
    (hs : P.underlying src = some .string) (ht : P.underlying dst = some (.slice e)) (he : P.underlying e = some (.int .u8)) {ok : Nat → Prop} (hfresh : ok W.heap.size) (hl : s.size ≤ 140737488355328) (HB : Below base w0 W) (hbase : base ≤ W.heap.size)
    (h : ∀ v1 w1, R d e w1 base ok v1 (bytesOf s) → Below base w0 w1 → W.grownBy w1 none → (∃ b, v1.ownBlock = some b ∧ W.heap.size ≤ b) → wpList P ops Q rest (a.put o.dst v1) w1) : wpList P ops Q (o :: rest) a W := by
  have hr := Lib.run_convert_string_bytes (P := P) W src dst e s hs ht he
  have hg : W.grownBy (Lib.bytesWorld W e s) none := ⟨by simp [Lib.bytesWorld, World.freeze, World.alloc, World.drew, -World.alloc_eq, -World.drew_eq], by simp [Lib.bytesWorld, World.freeze, World.alloc, World.drew, -World.alloc_eq, -World.drew_eq], by simp [Lib.bytesWorld, World.freeze, World.alloc, World.drew, -World.alloc_eq, -World.drew_eq], by rw [Lib.bytesWorld_size]; omega, fun k hk _ => Lib.bytesWorld_at_old W e s k hk⟩
  have hcs : s.size ≤ (Lib.bytesCells W e s).size := by
    have h1 : s.data.size = s.size := rfl
    simp only [Lib.bytesCells, Array.size_append, Array.size_map, Array.size_replicate, h1]
    omega
  have hcap : s.size ≤ grownCap W s.size 0 e := grownCap_ge W s.size 0 e
  have hmax : grownCap W s.size 0 e ≤ maxLen := grownCap_le_maxLen W s.size 0 e (by simp only [maxLen]; omega)
  have hrun : (execOp a.eval o).run P W = .ok (.value (.slice (some ⟨W.heap.size, 0, none⟩) s.size (grownCap W s.size 0 e))) (Lib.bytesWorld W e s) := by
    unfold execOp
    simp [ho, hx, hr, Result.andThen]
  refine Kd.event_run hgd hrun (h _ _ ⟨fun k hk => ?_, W.heap.size, grownCap W s.size 0 e, Lib.bytesCells W e s, _, _, by rw [bytesOf_length], hbase, Lib.bytesWorld_at_new W e s, by rw [bytesOf_length]; exact hcs, by rw [bytesOf_length]; exact hcap, hmax, ?_⟩ (below_grown0 HB hg hbase) hg ⟨W.heap.size, by simp [Value.ownBlock], Nat.le_refl _⟩)
  · have : W.heap.size = k := by simpa [Value.ownBlock] using hk
    subst this
    exact hfresh
  · rw [bytesOf_length]
    simp only [Lib.bytesCells, Array.toList_append, Array.toList_map]
    rw [List.take_append_of_le_length (by rw [List.length_map, data_length]; exact Nat.le_refl _), List.take_of_length_le (by rw [List.length_map, data_length]; exact Nat.le_refl _)]
    simp [nums, bytesOf]
end
end Kf
section
variable {P : Program} {ops : Array Oper} {rest : List Oper} {o : Oper} {a : Act} {Q : Exit → Act → World → Prop}
/-- 'copy(row, text)', the text no longer than the row. -/
theorem print_copy_str {w0 W : World} (base : Nat) (hgd : o.guard = none) (s x : Operand) (t u e : TypeId)
    (ho : o.op = .call { callee := .builtin .copy, args := #[s, x], argTypes := #[t, u] })
    (ht : P.underlying t = some (.slice e)) (_hu : P.underlying u = some .string) (hinfo : (P.info? e).map (fun i => (i.zero, i.size, i.bytes)) = some (some (.int .u8 0), 1, 1))
    (v : Value) (xs : List Int) (y : ByteArray) (hs : a.eval s = v) (hx : a.eval x = .string y)
    (HO : W.ownsRow base e 1 v xs.length (nums .u8 xs)) (HB : Below base w0 W) (hbase : base ≤ W.heap.size) (hl : y.size ≤ xs.length)
    (h : ∀ v1 w1, v1 = v → w1.ownsRow base e 1 v1 (copyS xs y).length (nums .u8 (copyS xs y)) → Below base w0 w1 → W.grownBy w1 v.ownBlock → wpList P ops Q rest (a.put o.dst (.int .i64 y.size)) w1) :
    wpList P ops Q (o :: rest) a W := by
  have hsz : (P.info? e).map (·.size) = some 1 := by
    cases hq : P.info? e with
    | none => simp [hq] at hinfo
    | some i => simp [hq] at hinfo ⊢; exact hinfo.2.1
  have hcl : (copyS xs y).length = xs.length := by simp [copyS, bytesOf_length]; omega
  suffices hh : ∃ w1, (Builtin.copy_ #[t, u] o.type #[v, .string y]).run P W = .ok (goInt y.size) w1 ∧ w1.ownsRow base e 1 v (copyS xs y).length (nums .u8 (copyS xs y)) ∧ W.grownBy w1 v.ownBlock by
    obtain ⟨w1, hr, hown, hg⟩ := hh
    refine wpList_plain hgd fun K hK => ?_
    unfold Oper.wp execOp
    simp only [ho, resolve, invoke, builtin, Sem.run_bind, Sem.run_pure, Result.andThen_ok, List.map_toArray, List.map_cons, List.map_nil, hs, hx, hr]
    exact hK _ _ (h v w1 rfl hown (HB.grown hg hbase (own_base HO)) hg)
  rcases HO.2 with ⟨rfl, h0⟩ | ⟨g, cap, cur, rfl, hb, hh, hnc, hcm, hcs, htk⟩
  · have hy0 : y.size = 0 := by omega
    have hr := Lib.run_copy_empty_string (P := P) W t u o.type e none 0 0 y ht (by rw [hsz]; rfl) hy0
    refine ⟨W, ?_, ?_, ⟨rfl, rfl, rfl, Nat.le_refl _, fun _ _ _ => rfl⟩⟩
    · rw [hr, hy0]
      rfl
    · have hx0 : xs = [] := List.eq_nil_of_length_eq_zero h0
      subst hx0
      have : copyS [] y = [] := List.eq_nil_of_length_eq_zero hcl
      rw [this]
      exact own_nil _ _ _ _
  · have hcs' : cur.size = cap := by simpa using hcs
    have hr := Lib.run_copy_row_string (P := P) W t u o.type e g 0 xs.length cap y cur e ht hsz hh hl (by omega)
    refine ⟨_, hr, ⟨by simp [nums], .inr ⟨g, cap, _, by rw [hcl], hb, setRow_heap W g cur _ e _ hh, by rw [hcl]; exact hnc, hcm, ?_, ?_⟩⟩, ⟨rfl, rfl, rfl, by simp, fun k _ hk => setRow_other W g k _ (fun e => hk (by simp [Value.ownBlock, e]))⟩⟩
    · have hlen : (Lib.byteCells y.data.toList).length = y.size := by rw [Lib.byteCells_length, data_length]
      simp only [List.size_toArray, List.length_append, List.length_take, List.length_drop, Array.length_toList, hlen]
      omega
    · have htk' : cur.toList.take xs.length = nums .u8 xs := by simpa using htk
      have hlen : (Lib.byteCells y.data.toList).length = y.size := by rw [Lib.byteCells_length, data_length]
      have hn : nums .u8 (copyS xs y) = Lib.byteCells y.data.toList ++ (nums .u8 xs).drop y.size := by simp [nums, copyS, bytesOf, Lib.byteCells]
      rw [hn, hcl, ← htk']
      simp only [List.take_zero, List.nil_append, Nat.zero_add, Nat.mul_one, List.toList_toArray]
      rw [List.take_append, hlen, List.take_of_length_le (by omega), List.drop_take]
end
end Go.Proofs.YtdllmlnigihpcaaW.PrintLast
