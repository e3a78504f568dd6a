/- slices.Insert and slices.Delete at rows of files: what the calls leave. -/
import Derived.Test.YtnkldnkolcighaaProg
import Derived.Test.YtnkldnkolcighaaXQ
import Derived.Lib.Overlaps
import Derived.Lib.AppendZerosOnto
import Derived.Lib.AppendZeros
import Derived.Laws.Externs
import Derived.Deep.RegionLaw
set_option linter.unusedVariables false
set_option linter.unusedSimpArgs false
namespace Go.Proofs.Ytnkldnkolcighaa.Ins
open Go.RowKit Go.Proofs.YtnkldnkolcighaaQ.PrintWords Go.Proofs.YtnkldnkolcighaaQ.PrintLast
/-! ### rows of elements of several cells: copied, grown, cut -/
section
variable {P : Program}
/-- 'copy(dst, src)' into a block known whole, elements of several cells. -/
theorem run_copy_rowN (w : World) (dT sT ty elem : TypeId) (size : Nat) (g o dLen dCap : Nat) (a : Addr) (sLen sCap : Nat) (cur : Array Value) (t : TypeId) (cs : List Value)
    (hu : P.underlying dT = some (.slice elem)) (hs : (P.info? elem).map (·.size) = some size)
    (hg : w.heap[g]? = some (.cells cur t (0, 0))) (hn : cs.length = Nat.min sLen dLen * size)
    (hsrc : ∀ j v, cs[j]? = some v → w.cell? (a.add j) = some v) (hfit : o + cs.length ≤ cur.size) (h1 : ∀ v ∈ cs, v.oneCell' = true) :
    (Builtin.copy_ #[dT, sT] ty #[.slice (some ⟨g, o, none⟩) dLen dCap, .slice (some a) sLen sCap]).run P w =
      .ok (goInt (Nat.min sLen dLen)) (w.setRow g (cur.toList.take o ++ cs ++ cur.toList.drop (o + cs.length)).toArray) := by
  have hl := run_loadCells_list (P := P) w a cs hsrc
  have hst := run_storeCells_at P g o t cs 0 cur w hg (by simpa using hfit) h1
  cases hq : P.info? elem with
  | none => simp [hq] at hs
  | some i =>
    have hi : i.size = size := by simpa [hq] using hs
    simp [Builtin.copy_, run_underlying hu, Builtin.lenOf, Builtin.firstCells, sizeOf, typeInfo, hq, hi, ← hn, hl, hst]
/-- 'clear(s)' in a block known whole. -/
theorem run_clear_rowN (w : World) (t e ty : TypeId) (z : Value) (zs : List Value) (size : Nat) (ht : P.underlying t = some (.slice e)) (hv : ∀ w, (zeroValue e).run P w = .ok z w) (hz : z.cells = zs.toArray) (hzl : zs.length = size) (hs0 : 0 < size) (h1 : ∀ v ∈ zs, v.oneCell' = true) (g o n c : Nat) (hn : 0 < n) (cur : Array Value) (tt : TypeId)
    (hg : w.heap[g]? = some (.cells cur tt (0, 0))) (hfit : o + n * size ≤ cur.size) :
    ∃ ws : List Value, ws.length = n * size ∧ (Builtin.clear_ #[t] ty #[.slice (some ⟨g, o, none⟩) n c]).run P w = .ok (.tuple #[]) (w.setRow g (cur.toList.take o ++ ws ++ cur.toList.drop (o + ws.length)).toArray) := by
  have hl : (Builtin.zeroCells z.cells n).toList.length = n * size := by rw [hz]; simp [Builtin.zeroCells, hzl]
  have hone : ∀ v ∈ (Builtin.zeroCells z.cells n).toList, v.oneCell' = true := by
    intro v hv'
    rw [hz] at hv'
    simp only [Builtin.zeroCells, Array.toList_map, List.mem_map] at hv'
    obtain ⟨i, _, rfl⟩ := hv'
    have hlt : i % zs.toArray.size < zs.toArray.size := Nat.mod_lt _ (by simp; omega)
    rw [getElem!_pos zs.toArray _ hlt]
    exact h1 _ (by simp)
  have hst := run_storeCells_at P g o tt (Builtin.zeroCells z.cells n).toList 0 cur w hg (by rw [hl]; simpa using hfit) hone
  simp only [Nat.add_zero] at hst
  obtain ⟨m, rfl⟩ : ∃ m, n = m + 1 := ⟨n - 1, by omega⟩
  exact ⟨_, hl, by simp [Builtin.clear_, run_underlying ht, hv, hst]⟩
end
theorem setRow_grown (w : World) (g : Nat) (cur : Array Value) : w.grownBy (w.setRow g cur) (some g) :=
  ⟨rfl, rfl, rfl, by simp, fun k _ hk => setRow_other w g k cur (fun e => hk (by rw [e]))⟩
/-- The cells behind a store of cs at place o. -/
def layL (cur : List Value) (o : Nat) (cs : List Value) : List Value := cur.take o ++ cs ++ cur.drop (o + cs.length)
theorem layL_length {cur : List Value} {o : Nat} {cs : List Value} (h : o + cs.length ≤ cur.length) : (layL cur o cs).length = cur.length := by
  unfold layL
  simp
  omega
/-- Room was made at place a for ys: in place. -/
theorem ins_shift {cur xs ys : List Value} {a : Nat} (hx : cur.take xs.length = xs) (ha : a ≤ xs.length) (hf : xs.length + ys.length ≤ cur.length) :
    (layL (layL cur (a + ys.length) (xs.drop a)) a ys).take (xs.length + ys.length) = xs.take a ++ ys ++ xs.drop a := by
  have e : cur = xs ++ cur.drop xs.length := by
    conv => lhs; rw [← List.take_append_drop xs.length cur, hx]
  have l1 : (cur.take (a + ys.length)).length = a + ys.length := by simp; omega
  have l2 : (layL cur (a + ys.length) (xs.drop a)).take a = xs.take a := by
    unfold layL
    rw [List.append_assoc, List.take_append_of_le_length (by omega), List.take_take, Nat.min_eq_left (by omega), e, List.take_append_of_le_length ha]
  have l3 : (layL cur (a + ys.length) (xs.drop a)).drop (a + ys.length) = xs.drop a ++ cur.drop (a + ys.length + (xs.drop a).length) := by
    unfold layL
    rw [List.append_assoc]
    exact List.drop_left' l1
  have l4 : layL (layL cur (a + ys.length) (xs.drop a)) a ys = (xs.take a ++ ys ++ xs.drop a) ++ cur.drop (a + ys.length + (xs.drop a).length) := by
    conv => lhs; rw [layL, l2, l3]
    simp only [List.append_assoc]
  rw [l4]
  exact List.take_left' (by simp; omega)
/-- No room: a new row of what stood ahead of a, then ys, then what stood from a on. -/
theorem ins_grow {xs ys old zs : List Value} {a m : Nat} (ha : a ≤ xs.length) (ho : old = xs.take a) (hz : zs.length = m) (hm : xs.length - a + ys.length ≤ m) :
    (layL (layL (old ++ zs) a ys) (a + ys.length) (xs.drop a)).take (xs.length + ys.length) = xs.take a ++ ys ++ xs.drop a := by
  subst ho
  have l1 : (xs.take a).length = a := by simp; omega
  have e1 : layL (xs.take a ++ zs) a ys = xs.take a ++ ys ++ zs.drop ys.length := by
    unfold layL
    rw [List.take_left' l1]
    congr 1
    rw [List.drop_append, List.drop_of_length_le (by omega), List.nil_append]
    congr 1
    omega
  rw [e1]
  have l2 : (xs.take a ++ ys).length = a + ys.length := by simp; omega
  have e2 : layL (xs.take a ++ ys ++ zs.drop ys.length) (a + ys.length) (xs.drop a) = (xs.take a ++ ys ++ xs.drop a) ++ (xs.take a ++ ys ++ zs.drop ys.length).drop (a + ys.length + (xs.drop a).length) := by
    conv => lhs; rw [layL, List.take_left' l2]
  rw [e2]
  exact List.take_left' (by simp; omega)
/-- The elements from b on moved to a. -/
theorem del_shift {cur xs : List Value} {a b : Nat} (hx : cur.take xs.length = xs) (hab : a ≤ b) (hb : b ≤ xs.length) (ws : List Value) :
    (layL (layL cur a (xs.drop b)) (xs.length - (b - a)) ws).take (xs.length - (b - a)) = xs.take a ++ xs.drop b := by
  have hl : xs.length ≤ cur.length := by have := congrArg List.length hx; simp at this; omega
  have l2 : cur.take a = xs.take a := by
    conv => rhs; rw [← hx]
    rw [List.take_take, Nat.min_eq_left (by omega)]
  have e1 : layL cur a (xs.drop b) = (xs.take a ++ xs.drop b) ++ cur.drop (a + (xs.drop b).length) := by
    rw [layL, l2]
  have l3 : (xs.take a ++ xs.drop b).length = xs.length - (b - a) := by simp; omega
  have e2 : layL (layL cur a (xs.drop b)) (xs.length - (b - a)) ws = (xs.take a ++ xs.drop b) ++ (ws ++ (layL cur a (xs.drop b)).drop (xs.length - (b - a) + ws.length)) := by
    conv => lhs; rw [layL]
    rw [e1, List.take_left' l3, List.append_assoc]
  rw [e2]
  exact List.take_left' l3
/-! ### slices.Insert and slices.Delete, walked at rows of files -/
theorem info67i : (Try.prog.info? 67).map (fun i => (i.zero, i.size, i.bytes)) = some (some (.agg #[(.string ⟨#[]⟩), (.string ⟨#[]⟩), (.int .i64 0)]), 3, 40) := by kernel_rfl
def InsPost (base : Nat) (n : Nat) (zs : List Value) (v : Value) (w : World) (e : Ending) (w' : World) : Prop :=
  ∃ v', e = .returned v' ∧ w'.ownsRow base 67 3 v' n zs ∧ w.grownBy w' v.ownBlock ∧ (v'.ownBlock = v.ownBlock ∨ v'.ownBlock = some w.heap.size)
set_option maxHeartbeats 4000000 in
set_option maxRecDepth 100000 in
/-- at the end: append -/
theorem ins_end (base n vb : Nat) (v : Value) (xs ys : List Value) (w : World) (HO : w.ownsRow base 67 3 v n xs) (hn : n ≤ 100000) (hbase : base ≤ w.heap.size)
    (hvb : w.heap[vb]? = some (.cells ys.toArray 67 (0, 0))) (hys : ys.length = 3) (h1y : ∀ u ∈ ys, u.oneCell' = true) :
    Calls Try.prog 70 #[v, .int .i64 (n : Int), .slice (some ⟨vb, 0, none⟩) 1 1] w (InsPost base (n + 1) (xs ++ ys) v w) := by
  obtain ⟨i0, hi, hzz⟩ := Option.map_eq_some_iff.1 info67i
  simp only [Prod.mk.injEq] at hzz
  obtain ⟨hz0, hz1, hz2⟩ := hzz
  obtain ⟨v', w1, hr, h2, h3, h4, h5⟩ := run_append_own_at (P := Try.prog) w base 28 28 67 i0 _ 3 40 Try.underlying28 hi hz0 hz1 hz2 rfl (by omega) v n xs HO ⟨vb, 0, none⟩ 1 1 ys (by omega) (fun j u hj => by
    rw [add_plain, blk_cell hvb]
    simpa using hj) h1y (by simp only [maxLen]; omega) (by omega) hbase
  have HP : Aside0 (InsPost base (n + 1) (xs ++ ys) v w (.returned v') w1) := ⟨⟨v', rfl, h2, h3, h5⟩⟩
  have HR := Aside0.mk hr
  obtain ⟨A, c, rfl⟩ := own_slice HO
  have hnc : n ≤ c := own_le HO
  have HN : Aside0 (A = none → n = 0 ∧ c = 0) := ⟨fun h => by
    subst h
    rcases HO.2 with ⟨he, h0⟩ | ⟨g, cap, cur, he, _⟩
    · injection he with _ h2 h3
      exact ⟨h0, h3⟩
    · cases he⟩
  clear hr h4 h2 h3 h5 hz0 hz1 hz2 hi i0 HO hvb hys h1y hbase
  have hu28 := Try.underlying28
  go_enter Try.func70, Try.ntmps70
  cases A with
  | none =>
    obtain ⟨rfl, rfl⟩ : n = 0 ∧ c = 0 := by have := HN.out rfl; exact this
    go_wp2_with (first | ((with_reducible refine gate_dst (N := 25) rfl ?_); refine Lib.wpList_append_run _ rfl _ _ _ _ rfl _ _ rfl rfl _ _ HR.out ?_))
    go_ret
    exact HP.out
  | some ad =>
    obtain ⟨ab, ao, asp⟩ := ad
    go_wp2_with (first | ((with_reducible refine gate_dst (N := 25) rfl ?_); refine Lib.wpList_append_run _ rfl _ _ _ _ rfl _ _ rfl rfl _ _ HR.out ?_))
    all_goals
      go_ret
      exact HP.out
theorem wpList_copy_ran (w : World) {P : Program} {ops : Array Oper} {rest : List Oper} {o : Oper} {a : Act} {Q : Exit → Act → World → Prop} (hgd : o.guard = none) (d s : Operand) (t t' : TypeId)
    (ho : o.op = .call { callee := .builtin .copy, args := #[d, s], argTypes := #[t, t'] }) (v u : Value) (hd : a.eval d = v) (hs : a.eval s = u) {v' : Value} {w' : World}
    (hr : (Builtin.copy_ #[t, t'] o.type #[v, u]).run P w = .ok v' w') (h : wpList P ops Q rest (a.put o.dst v') w') : wpList P ops Q (o :: rest) a w := by
  refine Kd.event_run hgd ?_ h
  unfold execOp
  simp [ho, resolve, invoke, builtin, hd, hs, hr, Result.andThen]
theorem step_copy_ran {P : Program} {ops : Array Oper} {o : Oper} {a : Act} {w : World} {K : Act → World → Prop} {Q : Exit → Act → World → Prop} {E : Prop}
    (hg : o.guard = none) (d x : Operand) (dT sT : TypeId) (hop : o.op = Op.call { callee := Callee.builtin Builtin.copy, args := #[d, x], argTypes := #[dT, sT] })
    (v u : Value) (hd : a.eval d = v) (hx : a.eval x = u) {v' : Value} {w' : World} (hr : (Builtin.copy_ #[dT, sT] o.type #[v, u]).run P w = .ok v' w') (hK : K (a.put o.dst v') w') :
    if Region.wanted o (yielded ops a.tmps) = true then Oper.wp P o a w K Q else E := by
  have hw : Region.wanted o (yielded ops a.tmps) = true := by simp [Region.wanted, hg]
  rw [if_pos hw]
  unfold Oper.wp
  simp [execOp, hop, resolve, invoke, builtin, hd, hx, hr, Result.andThen]
  exact hK
theorem size67 : (Try.prog.info? 67).map (·.size) = some 3 := by kernel_rfl
theorem no_overlap (w : World) (vb g o lb cb : Nat) (ys : List Value) (cur : Array Value) (hne : vb ≠ g) (hvb : w.heap[vb]? = some (.cells ys.toArray 67 (0, 0))) (hg : w.heap[g]? = some (.cells cur 67 (0, 0))) (hc : cur.size ≠ 0) :
    (callFunc 80 #[.slice (some ⟨vb, 0, none⟩) 1 1, .slice (some ⟨g, o, none⟩) lb cb]).run Try.prog w = .ok (.value (.bool false)) w := by
  have hsz : ∀ w, (Go.sizeOf 67).run Try.prog w = .ok 3 w := fun w => by
    have h := size67
    cases hq : Try.prog.info? 67 with
    | none => simp [hq] at h
    | some i => simp [hq] at h; simp [sizeOf, typeInfo, hq, h]
  rw [run_callFunc_extern Try.func80 (by kernel_rfl) (by kernel_rfl) (by kernel_rfl) (e := Extern.SlicesOverlaps.overlaps #[28, 28] #[4]) (by kernel_rfl),
    Lib.run_overlaps_apart w 28 4 67 Try.underlying28 3 hsz ⟨vb, 0, none⟩ ⟨g, o, none⟩ 1 1 lb cb hne 67 67 ys.toArray.size cur.size (by simp [World.shape?, hvb]) (by simp [World.shape?, hg]) hc (by simp [World.frozen?, hvb]) (by simp [World.frozen?, hvb])]
  rfl
set_option maxHeartbeats 4000000 in
set_option maxRecDepth 100000 in
/-- there is room: in place -/
theorem ins_room (base n c i g vb : Nat) (cur : Array Value) (xs ys : List Value) (w : World) (hi : i < n) (hroom : n + 1 ≤ c) (hc63 : c ≤ maxLen) (hb : base ≤ g) (hg : w.heap[g]? = some (.cells cur 67 (0, 0)))
    (hcs : cur.size = c * 3) (hx : cur.toList.take (n * 3) = xs) (h1x : ∀ u ∈ xs, u.oneCell' = true)
    (hvb : w.heap[vb]? = some (.cells ys.toArray 67 (0, 0))) (hne : vb ≠ g) (hys : ys.length = 3) (h1y : ∀ u ∈ ys, u.oneCell' = true) :
    Calls Try.prog 70 #[.slice (some ⟨g, 0, none⟩) n c, .int .i64 (i : Int), .slice (some ⟨vb, 0, none⟩) 1 1] w (InsPost base (n + 1) (xs.take (i * 3) ++ ys ++ xs.drop (i * 3)) (.slice (some ⟨g, 0, none⟩) n c) w) := by
  have hxl : xs.length = n * 3 := by rw [← hx]; simp; omega
  have hdl : (xs.drop (i * 3)).length = (n - i) * 3 := by rw [List.length_drop, hxl]; omega
  have hov : ∀ o lb cb, (callFunc 80 #[.slice (some ⟨vb, 0, none⟩) 1 1, .slice (some ⟨g, o, none⟩) lb cb]).run Try.prog w = .ok (.value (.bool false)) w := fun o lb cb => no_overlap w vb g o lb cb ys cur hne hvb hg (by omega)
  obtain ⟨W1, hW1⟩ : ∃ W1, W1 = w.drew.setRow g (layL cur.toList ((i + 1) * 3) (xs.drop (i * 3))).toArray := ⟨_, rfl⟩
  have hg1 : W1.heap[g]? = some (.cells (layL cur.toList ((i + 1) * 3) (xs.drop (i * 3))).toArray 67 (0, 0)) := by rw [hW1]; exact setRow_heap w.drew g cur _ 67 _ hg
  have hl1 : (layL cur.toList ((i + 1) * 3) (xs.drop (i * 3))).length = c * 3 := by rw [layL_length (by simp only [Array.length_toList]; omega), Array.length_toList, hcs]
  have hvb1 : W1.heap[vb]? = some (.cells ys.toArray 67 (0, 0)) := by rw [hW1, setRow_other _ _ _ _ hne]; exact hvb
  have hcp1 : ∀ ty dc sc, (Builtin.copy_ #[28, 28] ty #[.slice (some ⟨g, (i + 1) * 3, none⟩) (n - i) dc, .slice (some ⟨g, i * 3, none⟩) (n + 1 - i) sc]).run Try.prog w.drew = .ok (goInt (Nat.min (n + 1 - i) (n - i))) W1 := fun ty dc sc => by
    rw [hW1]
    refine run_copy_rowN w.drew 28 28 ty 67 3 g ((i + 1) * 3) _ dc ⟨g, i * 3, none⟩ _ sc cur 67 (xs.drop (i * 3)) Try.underlying28 size67 hg (by rw [hdl, show Nat.min (n + 1 - i) (n - i) = n - i by simp only [Nat.min_def]; split <;> omega]) (fun j v hj => ?_) (by omega) (fun u hu => h1x u (List.mem_of_mem_drop hu))
    rw [Addr.add_lit]
    have hc := blk_cell (w := w.drew) (g := g) hg (i * 3 + j)
    rw [hc]
    rw [List.getElem?_drop] at hj
    rw [← hx, List.getElem?_take] at hj
    split at hj
    · simpa using hj
    · cases hj
  obtain ⟨W2, hW2⟩ : ∃ W2, W2 = W1.setRow g (layL (layL cur.toList ((i + 1) * 3) (xs.drop (i * 3))) (i * 3) ys).toArray := ⟨_, rfl⟩
  have hcp2 : ∀ ty dc, (Builtin.copy_ #[28, 28] ty #[.slice (some ⟨g, i * 3, none⟩) (n + 1 - i) dc, .slice (some ⟨vb, 0, none⟩) 1 1]).run Try.prog W1 = .ok (goInt (Nat.min 1 (n + 1 - i))) W2 := fun ty dc => by
    rw [hW2]
    refine run_copy_rowN W1 28 28 ty 67 3 g (i * 3) _ dc ⟨vb, 0, none⟩ 1 1 (layL cur.toList ((i + 1) * 3) (xs.drop (i * 3))).toArray 67 ys Try.underlying28 size67 hg1 (by rw [hys, show Nat.min 1 (n + 1 - i) = 1 by simp only [Nat.min_def]; split <;> omega]) (fun j v hj => ?_) (by rw [List.size_toArray, hl1]; omega) h1y
    rw [add_plain, blk_cell hvb1]
    simpa using hj
  have hl2 : (layL (layL cur.toList ((i + 1) * 3) (xs.drop (i * 3))) (i * 3) ys).length = c * 3 := by rw [layL_length (by rw [hl1]; omega), hl1]
  have HP : Aside0 (InsPost base (n + 1) (xs.take (i * 3) ++ ys ++ xs.drop (i * 3)) (.slice (some ⟨g, 0, none⟩) n c) w (.returned (.slice (some ⟨g, 0, none⟩) (n + 1) c)) W2) := by
    refine ⟨_, rfl, ⟨by simp; omega, .inr ⟨g, c, _, rfl, hb, by rw [hW2]; exact setRow_heap W1 g _ _ 67 _ hg1, hroom, hc63, by rw [List.size_toArray, hl2], ?_⟩⟩, ?_, .inl rfl⟩
    · have z := ins_shift (cur := cur.toList) (xs := xs) (ys := ys) (a := i * 3) (by rw [hxl]; exact hx) (by omega) (by have h_ : cur.toList.length = cur.size := Array.length_toList; omega)
      rw [hys, hxl, show i * 3 + 3 = (i + 1) * 3 by omega, show n * 3 + 3 = (n + 1) * 3 by omega] at z
      exact z
    · have e1 : w.grownBy W1 (some g) := by rw [hW1]; exact ⟨rfl, rfl, rfl, by simp, fun k _ hk => setRow_other w.drew g k _ (fun e => hk (by rw [e]))⟩
      have e2 : W1.grownBy W2 (some g) := by rw [hW2]; exact setRow_grown W1 g _
      exact e1.trans e2
  have HC1 := Aside0.mk hcp1
  have HC2 := Aside0.mk hcp2
  have HOV := Aside0.mk hov
  have hc63' : c ≤ 9223372036854775807 := by simpa only [maxLen] using hc63
  clear hcp1 hcp2 hov hW1 hW2 hg1 hl1 hl2 hvb1 hvb hx h1x h1y hys hcs hg hxl hdl hb hne hc63
  have hu28 := Try.underlying28
  have hw1 : IntKind.i64.wrap ((i : Int) + 1) = (i : Int) + 1 := by rw [IntKind.wrap_i64]; omega
  have hb1 : (0 : Int) ≤ (i : Int) + 1 := by omega
  have htn : ((i : Int) + 1).toNat = i + 1 := by omega
  have hb2 : ¬ (c = i + 1) := by omega
  have hb3 : (i : Int) ≤ (n : Int) + 1 := by omega
  have hb4 : ¬ (c = i) := by omega
  have hin : i ≤ n := by omega
  have hz2 : ¬ ((i : Int) = (n : Int)) := by omega
  go_enter Try.func70, Try.ntmps70
  go_wp2_with (simp only [HOV.out])
  go_region_law (refine step_copy_ran rfl _ _ 28 28 rfl (.slice (some ⟨g, (i + 1) * 3, none⟩) (n - i) (c - (i + 1))) (.slice (some ⟨g, i * 3, none⟩) (n + 1 - i) (c - i)) (by simp [Act.eval, Act.put]) (by simp [Act.eval, Act.put]) (HC1.out _ _ _) ?_)
  go_wp2_with (first | ((with_reducible refine gate_dst (N := 82) rfl ?_); refine wpList_copy_ran _ rfl _ _ _ _ rfl _ _ rfl rfl (HC2.out _ _) ?_))
  go_ret
  exact HP.out
set_option maxHeartbeats 4000000 in
set_option maxRecDepth 100000 in
/-- there is none: a new row -/
theorem ins_none (base n i g vb : Nat) (cur : Array Value) (xs ys : List Value) (w : World) (hi : i < n) (hn : n ≤ 100000) (hbase : base ≤ w.heap.size) (hg : w.heap[g]? = some (.cells cur 67 (0, 0)))
    (hcs : cur.size = n * 3) (hx : cur.toList.take (n * 3) = xs) (h1x : ∀ u ∈ xs, u.oneCell' = true)
    (hvb : w.heap[vb]? = some (.cells ys.toArray 67 (0, 0))) (hys : ys.length = 3) (h1y : ∀ u ∈ ys, u.oneCell' = true) :
    Calls Try.prog 70 #[.slice (some ⟨g, 0, none⟩) n n, .int .i64 (i : Int), .slice (some ⟨vb, 0, none⟩) 1 1] w (InsPost base (n + 1) (xs.take (i * 3) ++ ys ++ xs.drop (i * 3)) (.slice (some ⟨g, 0, none⟩) n n) w) := by
  obtain ⟨i0, hi0, hzz⟩ := Option.map_eq_some_iff.1 info67i
  simp only [Prod.mk.injEq] at hzz
  obtain ⟨hz0, hz1, hz2⟩ := hzz
  have hxl : xs.length = n * 3 := by rw [← hx]; simp; omega
  have hdl : (xs.drop (i * 3)).length = (n - i) * 3 := by rw [List.length_drop, hxl]; omega
  have hgl : g < w.heap.size := blk_lt hg
  have hvl : vb < w.heap.size := blk_lt hvb
  have hcell : ∀ (W : World), W.heap[g]? = some (.cells cur 67 (0, 0)) → ∀ j v, (xs.drop (i * 3))[j]? = some v → W.cell? ((⟨g, i * 3, none⟩ : Addr).add j) = some v := fun W hW j v hj => by
    rw [Addr.add_lit, blk_cell hW]
    rw [List.getElem?_drop] at hj
    rw [← hx, List.getElem?_take] at hj
    split at hj
    · simpa using hj
    · cases hj
  have hold : (Builtin.firstCells i0.size i (.slice (some ⟨g, 0, none⟩) i n)).run Try.prog w.drew = .ok (xs.take (i * 3)).toArray w.drew := by
    rw [hz1]
    refine run_firstCells_some w.drew 3 i ⟨g, 0, none⟩ i n (xs.take (i * 3)) (by rw [List.length_take]; omega) (fun j v hj => ?_)
    rw [add_plain, blk_cell (w := w.drew) (g := g) hg]
    rw [← hx, List.take_take, List.getElem?_take] at hj
    split at hj
    · simpa using hj
    · cases hj
  have hrz := fun ty => Lib.run_append_grow_zeros (P := Try.prog) w 28 3 ty 67 i0 _ .i64 .i64 Try.underlying28 Try.underlying3 hi0 hz0 (some ⟨g, 0, none⟩) i n (xs.take (i * 3)) hold (n + 1 - i) (by omega) (by omega) (by omega) (by omega) (by rw [hz2]; omega) (by rw [hz2, show i + (n + 1 - i) = n + 1 by omega]; exact growslice_fits (by omega) (by omega))
  rw [show i + (n + 1 - i) = n + 1 by omega, show ((n + 1 - i : Nat) : Int) = (n : Int) + 1 - (i : Int) by omega] at hrz
  have hG1 : n + 1 ≤ grownCap w (n + 1) n 67 := grownCap_ge w _ _ _
  have hG2 : grownCap w (n + 1) n 67 ≤ maxLen := grownCap_le_maxLen w (n + 1) n 67 (by unfold maxLen; omega)
  generalize grownCap w (n + 1) n 67 = G at hrz hG1 hG2
  obtain ⟨Z, hZ⟩ : ∃ Z : List Value, Z = (Builtin.zeroCells (Value.agg #[(.string ⟨#[]⟩), (.string ⟨#[]⟩), (.int .i64 0)]).cells (n + 1 - i)).toList ++ (Builtin.zeroCells (Value.agg #[(.string ⟨#[]⟩), (.string ⟨#[]⟩), (.int .i64 0)]).cells (G - (n + 1))).toList := ⟨_, rfl⟩
  have hZl : Z.length = (G - i) * 3 := by
    have h3 : (Value.agg #[(.string ⟨#[]⟩), (.string ⟨#[]⟩), (.int .i64 0)]).cells.size = 3 := rfl
    rw [hZ, List.length_append, Array.length_toList, Array.length_toList, size_zeroCells, size_zeroCells, h3]
    omega
  have hrow : ((xs.take (i * 3)).toArray ++ Builtin.zeroCells (Value.agg #[(.string ⟨#[]⟩), (.string ⟨#[]⟩), (.int .i64 0)]).cells (n + 1 - i) ++ Builtin.zeroCells (Value.agg #[(.string ⟨#[]⟩), (.string ⟨#[]⟩), (.int .i64 0)]).cells (G - (n + 1))) = (xs.take (i * 3) ++ Z).toArray := by
    rw [hZ]
    apply Array.ext'
    simp
  rw [hrow] at hrz
  obtain ⟨W1, hW1⟩ : ∃ W1, W1 = w.drew.alloc (.cells (xs.take (i * 3) ++ Z).toArray 67) := ⟨_, rfl⟩
  rw [← hW1] at hrz
  have hl0 : (xs.take (i * 3) ++ Z).length = G * 3 := by rw [List.length_append, List.length_take, hZl]; omega
  have hs1 : W1.heap[w.heap.size]? = some (.cells (xs.take (i * 3) ++ Z).toArray 67 (0, 0)) := by rw [hW1]; exact heap_alloc_new w.drew _
  have hg1 : W1.heap[g]? = some (.cells cur 67 (0, 0)) := by rw [hW1, heap_alloc_old w.drew _ hgl]; exact hg
  have hv1 : W1.heap[vb]? = some (.cells ys.toArray 67 (0, 0)) := by rw [hW1, heap_alloc_old w.drew _ hvl]; exact hvb
  obtain ⟨W2, hW2⟩ : ∃ W2, W2 = W1.setRow w.heap.size (layL (xs.take (i * 3) ++ Z) (i * 3) ys).toArray := ⟨_, rfl⟩
  have hl1 : (layL (xs.take (i * 3) ++ Z) (i * 3) ys).length = G * 3 := by rw [layL_length (by rw [hl0]; omega), hl0]
  have hcp1 : ∀ ty dc, (Builtin.copy_ #[28, 28] ty #[.slice (some ⟨w.heap.size, i * 3, none⟩) (n + 1 - i) dc, .slice (some ⟨vb, 0, none⟩) 1 1]).run Try.prog W1 = .ok (goInt (Nat.min 1 (n + 1 - i))) W2 := fun ty dc => by
    rw [hW2]
    refine run_copy_rowN W1 28 28 ty 67 3 w.heap.size (i * 3) _ dc ⟨vb, 0, none⟩ 1 1 (xs.take (i * 3) ++ Z).toArray 67 ys Try.underlying28 size67 hs1 (by rw [hys, show Nat.min 1 (n + 1 - i) = 1 by simp only [Nat.min_def]; split <;> omega]) (fun j v hj => ?_) (by rw [List.size_toArray, hl0]; omega) h1y
    rw [add_plain, blk_cell hv1]
    simpa using hj
  have hs2 : W2.heap[w.heap.size]? = some (.cells (layL (xs.take (i * 3) ++ Z) (i * 3) ys).toArray 67 (0, 0)) := by rw [hW2]; exact setRow_heap W1 _ _ _ 67 _ hs1
  have hg2 : W2.heap[g]? = some (.cells cur 67 (0, 0)) := by rw [hW2, setRow_other _ _ _ _ (by omega)]; exact hg1
  obtain ⟨W3, hW3⟩ : ∃ W3, W3 = W2.drew.setRow w.heap.size (layL (layL (xs.take (i * 3) ++ Z) (i * 3) ys) ((i + 1) * 3) (xs.drop (i * 3))).toArray := ⟨_, rfl⟩
  have hl2 : (layL (layL (xs.take (i * 3) ++ Z) (i * 3) ys) ((i + 1) * 3) (xs.drop (i * 3))).length = G * 3 := by rw [layL_length (by rw [hl1]; omega), hl1]
  have hcp2 : ∀ ty dc sc, (Builtin.copy_ #[28, 28] ty #[.slice (some ⟨w.heap.size, (i + 1) * 3, none⟩) (n - i) dc, .slice (some ⟨g, i * 3, none⟩) (n - i) sc]).run Try.prog W2.drew = .ok (goInt (Nat.min (n - i) (n - i))) W3 := fun ty dc sc => by
    rw [hW3]
    exact run_copy_rowN W2.drew 28 28 ty 67 3 w.heap.size ((i + 1) * 3) _ dc ⟨g, i * 3, none⟩ _ sc (layL (xs.take (i * 3) ++ Z) (i * 3) ys).toArray 67 (xs.drop (i * 3)) Try.underlying28 size67 hs2 (by rw [hdl, show Nat.min (n - i) (n - i) = n - i by simp only [Nat.min_def]; split <;> omega]) (hcell W2.drew hg2) (by rw [List.size_toArray, hl1]; omega) (fun u hu => h1x u (List.mem_of_mem_drop hu))
  have HP : Aside0 (InsPost base (n + 1) (xs.take (i * 3) ++ ys ++ xs.drop (i * 3)) (.slice (some ⟨g, 0, none⟩) n n) w (.returned (.slice (some ⟨w.heap.size, 0, none⟩) (n + 1) G)) W3) := by
    refine ⟨_, rfl, ⟨by simp; omega, .inr ⟨w.heap.size, G, _, rfl, hbase, by rw [hW3]; exact setRow_heap W2.drew _ _ _ 67 _ hs2, hG1, hG2, by rw [List.size_toArray, hl2], ?_⟩⟩, ?_, .inr rfl⟩
    · have z := ins_grow (xs := xs) (ys := ys) (old := xs.take (i * 3)) (zs := Z) (a := i * 3) (by omega) rfl hZl (by omega)
      rw [hys, hxl, show i * 3 + 3 = (i + 1) * 3 by omega, show n * 3 + 3 = (n + 1) * 3 by omega] at z
      exact z
    · have hall : ∀ k, k < w.heap.size → W3.heap[k]? = w.heap[k]? := fun k hk => by
        rw [hW3, setRow_other _ _ _ _ (by omega)]
        show W2.heap[k]? = _
        rw [hW2, setRow_other _ _ _ _ (by omega), hW1]
        exact heap_alloc_old w.drew _ hk
      have hsz : w.heap.size ≤ W3.heap.size := by rw [hW3, hW2, hW1]; simp
      exact ⟨by rw [hW3, hW2, hW1]; rfl, by rw [hW3, hW2, hW1]; rfl, by rw [hW3, hW2, hW1]; rfl, hsz, fun k hk _ => hall k hk⟩
  have HRZ := Aside0.mk hrz
  have HC1 := Aside0.mk hcp1
  have HC2 := Aside0.mk hcp2
  have hG63 : G ≤ 9223372036854775807 := by simpa only [maxLen] using hG2
  obtain ⟨h, hh⟩ : ∃ h, h = w.heap.size := ⟨_, rfl⟩
  rw [← hh] at HRZ HC1 HC2 HP
  clear hh hrz hcp1 hcp2 hold hcell hrow hW1 hW2 hW3 hs1 hs2 hg1 hg2 hv1 hl0 hl1 hl2 hZl hZ hx h1x h1y hys hcs hg hvb hxl hdl hgl hvl hz0 hz1 hz2 hi0 i0 hbase hG2
  have hu28 := Try.underlying28
  have hw1 : IntKind.i64.wrap ((i : Int) + 1) = (i : Int) + 1 := by rw [IntKind.wrap_i64]; omega
  have hb1 : (0 : Int) ≤ (i : Int) + 1 := by omega
  have htn : ((i : Int) + 1).toNat = i + 1 := by omega
  have hGi : ¬ (G = i) := by omega
  have hGim : ¬ (G = i + 1) := by omega
  have hni : ¬ (n = i) := by omega
  have hin : i ≤ n := by omega
  have hb3 : (i : Int) ≤ (n : Int) := by omega
  have hz2 : ¬ ((i : Int) = (n : Int)) := by omega
  go_enter Try.func70, Try.ntmps70
  go_wp2_with (first | ((with_reducible refine gate_dst (N := 40) rfl ?_); refine Lib.wpList_append_run _ rfl _ _ _ _ rfl _ _ rfl rfl _ _ (HRZ.out _) ?_) | ((with_reducible refine gate_dst (N := 45) rfl ?_); refine wpList_copy_ran _ rfl _ _ _ _ rfl _ _ rfl rfl (HC1.out _ _) ?_))
  go_region_law (refine step_copy_ran rfl _ _ 28 28 rfl (.slice (some ⟨h, (i + 1) * 3, none⟩) (n - i) (G - (i + 1))) (.slice (some ⟨g, i * 3, none⟩) (n - i) (n - i)) (by simp [Act.eval, Act.put]) (by simp [Act.eval, Act.put]) (HC2.out _ _ _) ?_)
  go_wp2
  go_ret
  exact HP.out
/-- slices.Insert(s, i, x), s a row of the call's own. -/
theorem ins_calls (base n i vb : Nat) (v : Value) (xs ys : List Value) (w : World) (HO : w.ownsRow base 67 3 v n xs) (hi : i ≤ n) (hn : n ≤ 100000) (hbase : base ≤ w.heap.size) (h1x : ∀ u ∈ xs, u.oneCell' = true)
    (hvb : w.heap[vb]? = some (.cells ys.toArray 67 (0, 0))) (hne : some vb ≠ v.ownBlock) (hys : ys.length = 3) (h1y : ∀ u ∈ ys, u.oneCell' = true) :
    Calls Try.prog 70 #[v, .int .i64 (i : Int), .slice (some ⟨vb, 0, none⟩) 1 1] w (InsPost base (n + 1) (xs.take (i * 3) ++ ys ++ xs.drop (i * 3)) v w) := by
  by_cases hin : i = n
  · subst hin
    have hxl : xs.length = i * 3 := HO.1
    rw [List.take_of_length_le (by omega), List.drop_of_length_le (by omega), List.append_nil]
    exact ins_end base i vb v xs ys w HO hn hbase hvb hys h1y
  · rcases HO.2 with ⟨_, h0⟩ | ⟨g, cap, cur, rfl, hb, hg, hnc, hcm, hcs, htk⟩
    · omega
    · have hne' : vb ≠ g := fun e => hne (by simp [Value.ownBlock, e])
      by_cases hr : n + 1 ≤ cap
      · exact ins_room base n cap i g vb cur xs ys w (by omega) hr hcm hb hg hcs htk h1x hvb hne' hys h1y
      · obtain rfl : n = cap := by omega
        exact ins_none base n i g vb cur xs ys w (by omega) hn hbase hg hcs htk h1x hvb hys h1y
theorem step_ran {P : Program} {ops : Array Oper} {o : Oper} {a : Act} {w w1 : World} {v : Value} {K : Act → World → Prop} {Q : Exit → Act → World → Prop} {E : Prop}
    (hg : o.guard = none) (s x : Operand) (t t' : TypeId) (hop : o.op = Op.call { callee := Callee.builtin Builtin.append, args := #[s, x], argTypes := #[t, t'] })
    (vs vx : Value) (hs : a.eval s = vs) (hx : a.eval x = vx) (hr : (Builtin.append_ #[t, t'] o.type #[vs, vx]).run P w = .ok v w1) (hK : K (a.put o.dst v) w1) :
    if Region.wanted o (yielded ops a.tmps) = true then Oper.wp P o a w K Q else E := by
  have hw : Region.wanted o (yielded ops a.tmps) = true := by simp [Region.wanted, hg]
  rw [if_pos hw]
  unfold Oper.wp
  simp [execOp, hop, resolve, invoke, builtin, hs, hx, hr, Result.andThen]
  exact hK
theorem zero67 (w : World) : (zeroValue 67).run Try.prog w = .ok (.agg #[(.string ⟨#[]⟩), (.string ⟨#[]⟩), (.int .i64 0)]) w := by
  have h := info67i
  cases hq : Try.prog.info? 67 with
  | none => simp [hq] at h
  | some i => simp [hq] at h; simp [zeroValue, typeInfo, hq, h.1]
set_option maxHeartbeats 4000000 in
set_option maxRecDepth 100000 in
/-- slices.Delete(s, i, i + 1), s a row of the call's own. -/
theorem del_calls (base m i : Nat) (v : Value) (xs : List Value) (w : World) (j : Int) (hj : j = (i : Int) + 1) (HO : w.ownsRow base 67 3 v (m + 1) xs) (hi : i ≤ m) (h1x : ∀ u ∈ xs, u.oneCell' = true) :
    Calls Try.prog 50 #[v, .int .i64 (i : Int), .int .i64 j] w (InsPost base m (xs.take (i * 3) ++ xs.drop ((i + 1) * 3)) v w) := by
  subst hj
  rcases HO.2 with ⟨_, h0⟩ | ⟨g, c, cur, rfl, hb, hg, hnc, hcm, hcs, htk⟩
  · omega
  have hxl : xs.length = (m + 1) * 3 := HO.1
  obtain ⟨i0, hi0, hzz⟩ := Option.map_eq_some_iff.1 info67i
  simp only [Prod.mk.injEq] at hzz
  obtain ⟨hz0, hz1, hz2⟩ := hzz
  have hdl : (xs.drop ((i + 1) * 3)).length = (m - i) * 3 := by rw [List.length_drop, hxl]; omega
  obtain ⟨A, hA, hsrc⟩ : ∃ A : Addr, (if c = i + 1 then some (⟨g, 0, none⟩ : Addr) else some ⟨g, (i + 1) * 3, none⟩) = some A ∧ (∀ t u, (xs.drop ((i + 1) * 3))[t]? = some u → w.drew.cell? (A.add t) = some u) := by
    by_cases h : c = i + 1
    · refine ⟨⟨g, 0, none⟩, by rw [if_pos h], fun t u hu => ?_⟩
      rw [List.drop_of_length_le (by omega)] at hu
      simp at hu
    · refine ⟨⟨g, (i + 1) * 3, none⟩, by rw [if_neg h], fun t u hu => ?_⟩
      rw [Addr.add_lit, blk_cell (w := w.drew) (g := g) hg]
      rw [List.getElem?_drop] at hu
      rw [← htk, List.getElem?_take] at hu
      split at hu
      · simpa using hu
      · cases hu
  have hap := fun ty => run_append_room (P := Try.prog) w.drew 28 ty 67 i0 Try.underlying28 hi0 g i c cur hg A (m - i) (c - (i + 1)) (xs.drop ((i + 1) * 3)) (by rw [hdl, hz1]) hsrc (fun u hu => h1x u (List.mem_of_mem_drop hu)) (by omega) (by rw [hdl, hz1, hcs]; omega)
  rw [hz1, show i + (m - i) = m by omega] at hap
  obtain ⟨W1, hW1⟩ : ∃ W1, W1 = w.drew.setRow g (layL cur.toList (i * 3) (xs.drop ((i + 1) * 3))).toArray := ⟨_, rfl⟩
  have hg1 : W1.heap[g]? = some (.cells (layL cur.toList (i * 3) (xs.drop ((i + 1) * 3))).toArray 67 (0, 0)) := by rw [hW1]; exact setRow_heap w.drew g cur _ 67 _ hg
  have hl1 : (layL cur.toList (i * 3) (xs.drop ((i + 1) * 3))).length = c * 3 := by rw [layL_length (by rw [hdl, Array.length_toList, hcs]; omega), Array.length_toList, hcs]
  have hap' : ∀ ty, (Builtin.append_ #[28, 28] ty #[.slice (some ⟨g, 0, none⟩) i c, .slice (some A) (m - i) (c - (i + 1))]).run Try.prog w.drew = .ok (.slice (some ⟨g, 0, none⟩) m c) W1 := fun ty => by rw [hW1]; exact hap ty
  obtain ⟨ws, hws, hcl⟩ : ∃ ws : List Value, ws.length = 1 * 3 ∧ ∀ ty, (Builtin.clear_ #[28] ty #[.slice (some ⟨g, m * 3, none⟩) 1 (c - m)]).run Try.prog W1 = .ok (.tuple #[]) (W1.setRow g (layL (layL cur.toList (i * 3) (xs.drop ((i + 1) * 3))) (m * 3) ws).toArray) := by
    obtain ⟨ws, h1, h2⟩ := run_clear_rowN (P := Try.prog) W1 28 67 0 _ [(.string ⟨#[]⟩), (.string ⟨#[]⟩), (.int .i64 0)] 3 Try.underlying28 zero67 rfl rfl (by omega) (by intro v hv; simp at hv; rcases hv with rfl | rfl | rfl <;> rfl) g (m * 3) 1 (c - m) (by omega) _ 67 hg1 (by rw [List.size_toArray, hl1]; omega)
    exact ⟨ws, h1, fun ty => h2⟩
  obtain ⟨W2, hW2⟩ : ∃ W2, W2 = W1.setRow g (layL (layL cur.toList (i * 3) (xs.drop ((i + 1) * 3))) (m * 3) ws).toArray := ⟨_, rfl⟩
  rw [← hW2] at hcl
  have hl2 : (layL (layL cur.toList (i * 3) (xs.drop ((i + 1) * 3))) (m * 3) ws).length = c * 3 := by rw [layL_length (by rw [hl1, hws]; omega), hl1]
  have HP : Aside0 (InsPost base m (xs.take (i * 3) ++ xs.drop ((i + 1) * 3)) (.slice (some ⟨g, 0, none⟩) (m + 1) c) w (.returned (.slice (some ⟨g, 0, none⟩) m c)) W2) := by
    refine ⟨_, rfl, ⟨by rw [List.length_append, hdl, List.length_take]; omega, .inr ⟨g, c, _, rfl, hb, by rw [hW2]; exact setRow_heap W1 g _ _ 67 _ hg1, by omega, hcm, by rw [List.size_toArray, hl2], ?_⟩⟩, ?_, .inl rfl⟩
    · have z := del_shift (cur := cur.toList) (xs := xs) (a := i * 3) (b := (i + 1) * 3) (by rw [hxl]; exact htk) (by omega) (by omega) ws
      rw [hxl, show (m + 1) * 3 - ((i + 1) * 3 - i * 3) = m * 3 by omega] at z
      exact z
    · have e1 : w.grownBy W1 (some g) := by rw [hW1]; exact ⟨rfl, rfl, rfl, by simp, fun k _ hk => setRow_other w.drew g k _ (fun e => hk (by rw [e]))⟩
      have e2 : W1.grownBy W2 (some g) := by rw [hW2]; exact setRow_grown W1 g _
      exact e1.trans e2
  have HAP := Aside0.mk hap'
  have HCL := Aside0.mk hcl
  have hc63 : c ≤ 9223372036854775807 := by simpa only [maxLen] using hcm
  clear hap hap' hcl hW1 hW2 hg1 hl1 hl2 hws hsrc hdl hxl htk hcs hcm hb hg HO h1x hz0 hz1 hz2 hi0 i0
  have hu28 := Try.underlying28
  have hw1 : IntKind.i64.wrap ((i : Int) + 1) = (i : Int) + 1 := by rw [IntKind.wrap_i64]; omega
  have hb1 : (0 : Int) ≤ (i : Int) + 1 := by omega
  have htn : ((i : Int) + 1).toNat = i + 1 := by omega
  have hb2 : (i : Int) ≤ (m : Int) + 1 := by omega
  have hb3 : i ≤ c := by omega
  have hb4 : i + 1 ≤ c := by omega
  have hb5 : m + 1 ≤ c := by omega
  have hb6 : ¬ (c = m) := by omega
  have hb7 : m ≤ c := by omega
  go_enter Try.func50, Try.ntmps50
  go_wp2_with (fail)
  go_region_law (refine step_ran rfl _ _ 28 28 rfl (.slice (some ⟨g, 0, none⟩) i c) (.slice (some A) (m - i) (c - (i + 1))) (by simp [Act.eval, Act.put]) (by simp [Act.eval, Act.put]) (HAP.out _) ?_)
  go_wp2_with (first | ((with_reducible refine gate_builtin (b := .clear) (xs := #[.tmp 31]) rfl ?_); refine Kd.event_run rfl (w1 := W2) (v := .tuple #[]) ?hr ?_; (case hr => unfold execOp; simp [resolve, invoke, builtin, Act.eval, HCL.out, Result.andThen])))
  go_ret
  exact HP.out
end Go.Proofs.Ytnkldnkolcighaa.Ins
