/- What the functions of a law compute, and that their calls compute it: written by a program of this session (xprint.py), which turns the kit print at a few places. -/
import Derived.Test.YtnkldnkolcighaaXFnActsx0
import Derived.Test.YtnkldnkolcighaaXFnActsx2
namespace Go.Proofs.Ytnkldnkolcighaa.XFnActs
open Go.RowKit Go.Proofs.YtnkldnkolcighaaQ.PrintWords Go.Proofs.YtnkldnkolcighaaQ.PrintLast Go.Proofs.YtnkldnkolcighaaQ.PrintMore
attribute [local go_sem] max2_int min2_int max_two min_two max_three min_three max_four min_four str_geq str_gtr   -- for this text's walks alone
set_option linter.unusedVariables false
set_option linter.unusedSimpArgs false

/-! ### impl_putFile: function 49 -/
-- impl_DiskOk impl_fileAt
/-! #### rows of files: their cells one behind the other -/
def cellsF (x : S67) : List Value := [.string x.f0, .string x.f1, .int .i64 x.f2]
def flatF (l : List S67) : List Value := l.flatMap cellsF
theorem flatF_length (l : List S67) : (flatF l).length = l.length * 3 := by
  induction l with
  | nil => rfl
  | cons x l ih =>
    have : flatF (x :: l) = cellsF x ++ flatF l := rfl
    rw [this, List.length_append, ih, List.length_cons]
    show 3 + _ = _
    omega
theorem flatF_take : ∀ (l : List S67) (i : Nat), (flatF l).take (i * 3) = flatF (l.take i)
  | _, 0 => by simp [flatF]
  | [], i + 1 => by simp [flatF]
  | x :: l, i + 1 => by
    have h : flatF (x :: l) = cellsF x ++ flatF l := rfl
    have hc : (cellsF x).length = 3 := rfl
    rw [h, show (i + 1) * 3 = (cellsF x).length + i * 3 by rw [hc]; omega, List.take_length_add_append, flatF_take l i]
    rfl
theorem flatF_drop : ∀ (l : List S67) (i : Nat), (flatF l).drop (i * 3) = flatF (l.drop i)
  | _, 0 => by simp [flatF]
  | [], i + 1 => by simp [flatF]
  | x :: l, i + 1 => by
    have h : flatF (x :: l) = cellsF x ++ flatF l := rfl
    have hc : (cellsF x).length = 3 := rfl
    rw [h, show (i + 1) * 3 = (cellsF x).length + i * 3 by rw [hc]; omega, List.drop_length_add_append, flatF_drop l i]
    rfl
theorem flatF_one (l : List S67) : ∀ u ∈ flatF l, u.oneCell' = true := by
  intro u hu
  obtain ⟨x, _, hx⟩ := List.mem_flatMap.1 hu
  simp [cellsF] at hx
  rcases hx with rfl | rfl | rfl <;> rfl
theorem reps_flat {w : World} {base : Nat} {ok : Nat → Prop} : ∀ {l : List S67} {cs : List Value}, Reps (k67.M w base ok) 3 l cs → cs = flatF l
  | [], cs, h => List.eq_nil_of_length_eq_zero (by simpa using h.1)
  | x :: l, cs, h => by
    have h0 := k67_openM (h.2 0 x rfl)
    rw [Nat.zero_mul, List.drop_zero] at h0
    have hr : Reps (k67.M w base ok) 3 l (cs.drop 3) := ⟨by rw [List.length_drop, h.1, List.length_cons]; omega, fun j p hj => by
      have := h.2 (j + 1) p (by simpa using hj)
      rwa [List.drop_drop, show 3 + j * 3 = (j + 1) * 3 by omega]⟩
    rw [← List.take_append_drop 3 cs, h0, reps_flat hr]
    rfl
theorem flat_reps {w : World} {base : Nat} {ok : Nat → Prop} (l : List S67) : Reps (k67.M w base ok) 3 l (flatF l) := by
  refine ⟨flatF_length l, fun j p hj => ?_⟩
  rw [flatF_drop]
  have hj' : l.drop j = p :: l.drop (j + 1) := by
    obtain ⟨h1, h2⟩ := List.getElem?_eq_some_iff.1 hj
    rw [List.drop_eq_getElem_cons h1, h2]
  rw [hj']
  exact k67_mkM w base ok p
theorem rowF_of {w : World} {base : Nat} {ok : Nat → Prop} {v : Value} {l : List S67} (h : Kd.R k67 67 w base ok v l) : w.ownsRow base 67 3 v l.length (flatF l) := by
  obtain ⟨_, inner, ho, hr⟩ := h
  rw [← reps_flat hr]
  exact ho
theorem rowF_mk {w : World} {base : Nat} {v : Value} {l : List S67} (h : w.ownsRow base 67 3 v l.length (flatF l)) : Kd.R k67 67 w base (fun _ => True) v l := ⟨fun _ _ => trivial, flatF l, h, flat_reps l⟩
def RowPost (base : Nat) (l : List S67) (v : Value) (w : World) (e : Ending) (w' : World) : Prop :=
  ∃ v', e = .returned v' ∧ Kd.R k67 67 w' base (fun _ => True) v' l ∧ w.grownBy w' v.ownBlock ∧ (v'.ownBlock = v.ownBlock ∨ v'.ownBlock = some w.heap.size)
theorem insR (base vb i : Nat) (v : Value) (l : List S67) (f : S67) (w : World) {ok : Nat → Prop} (HO : Kd.R k67 67 w base ok v l) (hi : i ≤ l.length) (hn : l.length ≤ 100000) (hbase : base ≤ w.heap.size)
    (hvb : w.heap[vb]? = some (.cells #[.string f.f0, .string f.f1, .int .i64 f.f2] 67 (0, 0))) (hne : some vb ≠ v.ownBlock) :
    Calls Try.prog 70 #[v, .int .i64 (i : Int), .slice (some ⟨vb, 0, none⟩) 1 1] w (RowPost base (l.take i ++ f :: l.drop i) v w) := by
  refine (Ins.ins_calls base l.length i vb v (flatF l) (cellsF f) w (rowF_of HO) hi hn hbase (flatF_one l) hvb hne rfl (by intro u hu; simp [cellsF] at hu; rcases hu with rfl | rfl | rfl <;> rfl)).mono ?_
  rintro e w' ⟨v', rfl, ho, hg, hat⟩
  refine ⟨v', rfl, rowF_mk ?_, hg, hat⟩
  have e1 : flatF (l.take i ++ f :: l.drop i) = (flatF l).take (i * 3) ++ cellsF f ++ (flatF l).drop (i * 3) := by
    rw [flatF_take, flatF_drop]
    simp [flatF]
  have e2 : (l.take i ++ f :: l.drop i).length = l.length + 1 := by simp; omega
  rw [e1, e2]
  exact ho
theorem delR (base i : Nat) (v : Value) (l : List S67) (w : World) (j : Int) (hj : j = (i : Int) + 1) {ok : Nat → Prop} (HO : Kd.R k67 67 w base ok v l) (hi : i < l.length) :
    Calls Try.prog 50 #[v, .int .i64 (i : Int), .int .i64 j] w (RowPost base (l.take i ++ l.drop (i + 1)) v w) := by
  obtain ⟨m, hm⟩ : ∃ m, l.length = m + 1 := ⟨l.length - 1, by omega⟩
  have ho := rowF_of HO
  rw [hm] at ho
  refine (Ins.del_calls base m i v (flatF l) w j hj ho (by omega) (flatF_one l)).mono ?_
  rintro e w' ⟨v', rfl, ho, hg, hat⟩
  refine ⟨v', rfl, rowF_mk ?_, hg, hat⟩
  have e1 : flatF (l.take i ++ l.drop (i + 1)) = (flatF l).take (i * 3) ++ (flatF l).drop ((i + 1) * 3) := by
    rw [flatF_take, flatF_drop]
    simp [flatF]
  have e2 : (l.take i ++ l.drop (i + 1)).length = m := by simp; omega
  rw [e1, e2]
  exact ho
theorem step_store_ran {P : Program} {ops : Array Oper} {Q : Exit → Act → World → Prop} {oi : Oper} {a : Act} {w w1 : World} {K : Act → World → Prop} (hw : Region.wanted oi (yielded ops a.tmps) = true) (hN : oi.dst = none) (t : TypeId) (p x : Operand) (ho : oi.op = .store t p x) (ad : Value) (u : Value) (hp : a.eval p = ad) (hx : a.eval x = u)
    (hrun : (Instr.storeAt t ad u).run P w = .ok () w1) (h : K a w1) : if Region.wanted oi (yielded ops a.tmps) = true then Oper.wp P oi a w K Q else K (a.put none undef) w := by
  refine skip_ hw hN ?_ h
  unfold execOp
  simp only [ho, hp, hx, Sem.run_bind, Sem.run_pure, Result.andThen_ok, hrun]
theorem less_gt : ∀ x y : List UInt8, (!Op.bytesLess x y && !x == y) = Op.bytesLess y x
  | [], [] => rfl
  | [], b :: y => by simp [Op.bytesLess]
  | a :: x, [] => by simp [Op.bytesLess]
  | a :: x, b :: y => by
    have ih := less_gt x y
    unfold Op.bytesLess
    by_cases h1 : a < b
    · have h2 : ¬ b < a := by
        have := UInt8.lt_iff_toNat_lt.1 h1
        intro h
        have := UInt8.lt_iff_toNat_lt.1 h
        omega
      have h3 : ¬ b = a := by rintro rfl; exact h2 h1
      simp [h1, h2, h3]
    by_cases h2 : a = b
    · subst h2
      simp only [h1, decide_false, Bool.false_or, beq_self_eq_true, Bool.true_and]
      rw [← ih]
      simp
    have h3 : b < a := by
      refine UInt8.lt_iff_toNat_lt.2 ?_
      have h4 : ¬ a.toNat < b.toNat := fun h => h1 (UInt8.lt_iff_toNat_lt.2 h)
      have h5 : a.toNat ≠ b.toNat := fun h => h2 (UInt8.toNat_inj.1 h)
      omega
    have h4 : ¬ b = a := fun h => h2 h.symm
    simp [h1, h2, h3, h4]
def gtN : List S67 → ByteArray → Nat → Int
  | [], _, _ => -1
  | x :: l, nm, i => if Op.bytesLess nm.toList x.f0.toList = true then (i : Int) else gtN l nm (i + 1)
set_option maxHeartbeats 8000000 in
set_option maxRecDepth 100000 in
theorem impl_putFile_1.calls (a0_0 : ByteArray) (a0_1 : ByteArray) (a0_2 : Int) (nm : ByteArray) (g : Nat) (w : World) (hc : w.cell? ⟨g, 0, none⟩ = some (.string nm)) (r : Bool) (hr : r = Op.bytesLess nm.toList a0_0.toList) :
    Calls Try.prog 69 #[.agg #[.string a0_0, .string a0_1, .int .i64 a0_2], .pointer (some ⟨g, 0, none⟩)] w fun e w' => e = .returned (.bool r) ∧ Below w.heap.size w w' := by
  have hu67 := Try.underlying67
  have HB := AM (Below.refl w.heap.size w)
  have HC := AM hc
  have HR := AM hr
  clear hc hr
  go_enter Try.func69, Try.ntmps69
  go_wp2_with (first | ((with_reducible refine gd 2 rfl ?_); refine bx (N := 2) (cs := #[.string a0_0, .string a0_1, .int .i64 a0_2]) (t := 67) ?_; intro gb1 hg w1 hbox hb; have BK := AM hbox; have GW := AM (bs hg HB); replace HB := bq HB hb; have hcz_0 : w1.cell? ⟨gb1, 0, none⟩ = some (.string a0_0) := (blk_cell BK.out 0).trans rfl; have hcg : w1.cell? ⟨g, 0, none⟩ = some (.string nm) := (hb.cell (World.block_lt_of_cell? _ _ HC.out)).trans HC.out; clear hb hbox hg))
  go_ret
  rw [HR.out]
  exact ⟨by first | rfl | (rw [less_gt]; rfl) | (rw [← less_gt]; simp; done), hB HB⟩
set_option maxHeartbeats 8000000 in
set_option maxRecDepth 100000 in
theorem impl_putFile_idx (A0 : Option Addr) (c0 : Nat) (l0 : List S67) (nm : ByteArray) (g : Nat) (w : World) (hr0 : Kd.C k67 w A0 l0.length l0) (hc0 : l0.length ≤ c0) (hc : w.cell? ⟨g, 0, none⟩ = some (.string nm)) :
    Calls Try.prog 66 #[.slice A0 l0.length c0, .func (.func 69) #[] #[.pointer (some ⟨g, 0, none⟩)]] w fun e w' => e = .returned (.int .i64 (gtN l0 nm 0)) ∧ Below w.heap.size w w' := by
  have HR0 := AM hr0
  have HC0 := AM hc0
  have HC := AM hc
  have hmx : l0.length ≤ 9223372036854775807 := hr0.2.1
  clear hr0 hc0 hc
  have HB := AM (Below.refl w.heap.size w)
  go_enter Try.func66, Try.ntmps66
  go_wp2
  go_loopg [8] l0.length (fun kq v8 w' => ∃ i : Nat, v8 = .int .i64 (i : Int) ∧ Aside0 (i ≤ l0.length) ∧ Aside0 (kq = l0.length - i) ∧ Aside0 (gtN (l0.drop i) nm i = gtN l0 nm 0) ∧ Aside0 (Below w.heap.size w w'))
  case atStart => exact ⟨0, rfl, ⟨Nat.zero_le _⟩, ⟨rfl⟩, ⟨rfl⟩, ⟨hB HB⟩⟩
  clear HB
  obtain ⟨i, rfl, HI, HK, HA, HB⟩ := hrel
  by_cases ci : i < l0.length
  · have cib : decide ((i : Int) < (l0.length : Int)) = true := decide_eq_true (by omega)
    have p1 : 0 ≤ (i : Int) := by omega
    have q1 : (i : Int) < (l0.length : Int) := by omega
    have hdr : l0.drop i = l0[i] :: l0.drop (i + 1) := List.drop_eq_getElem_cons ci
    have hrd : rd_T67 l0 (i : Int) = l0[i] := by unfold rd_T67; rw [Int.toNat_natCast, List.getD_eq_getElem?_getD, List.getElem?_eq_getElem ci]; rfl
    obtain ⟨ad1, e1, hx0, hx1, hx2⟩ := at_T67 HR0.out (i : Int) p1 q1
    cases e1
    rw [hrd] at hx0 hx1 hx2
    rw [Int.toNat_natCast] at hx0 hx1 hx2
    obtain ⟨x, hx⟩ : ∃ x, x = l0[i] := ⟨_, rfl⟩
    rw [← hx] at hx0 hx1 hx2 hdr
    have HA2 := HA.out
    rw [hdr, gtN] at HA2
    replace hx0 := cl HB hx0
    replace hx1 := cl HB hx1
    replace hx2 := cl HB hx2
    have HCW := AM (cl HB HC.out)
    replace p1 := eq_true p1
    replace q1 := eq_true q1
    have wi := wsuccI (i := i) (by omega)
    by_cases ce : Op.bytesLess nm.toList x.f0.toList = true
    · rw [if_pos ce] at HA2
      have HD := AM (show true = Op.bytesLess nm.toList x.f0.toList from ce.symm)
      have HA3 := AM HA2
      clear ce hrd hdr hx HA2 wi
      go_wp2_with (first | ((with_reducible refine gate_calleeT (T := 11) rfl ?_); refine goesC_ 11 (some 16) rfl rfl rfl Try.func69 (by kernel_rfl) rfl #[.agg #[.string x.f0, .string x.f1, .int .i64 x.f2]] rfl am #[.agg #[.string x.f0, .string x.f1, .int .i64 x.f2], .pointer (some ⟨g, 0, none⟩)] (by rfl) ?_; (with_reducible refine (impl_putFile_1.calls x.f0 x.f1 x.f2 nm g _ HCW.out true HD.out).mono ?_); rintro e w8 ⟨rfl, hb⟩; refine ⟨_, rfl, ?_⟩; replace HB := bq HB hb; clear hb))
      go_ret
      exact ⟨by rw [← HA3.out]; (first | done | rfl), hB HB⟩
    rw [if_neg ce] at HA2
    have HD := AM (show false = Op.bytesLess nm.toList x.f0.toList from (Bool.eq_false_iff.2 ce).symm)
    have HA3 := AM HA2
    have WI := AM wi
    clear ce hrd hdr hx HA2 wi
    go_wp2_with (first | ((with_reducible refine gate_calleeT (T := 11) rfl ?_); refine goesC_ 11 (some 16) rfl rfl rfl Try.func69 (by kernel_rfl) rfl #[.agg #[.string x.f0, .string x.f1, .int .i64 x.f2]] rfl am #[.agg #[.string x.f0, .string x.f1, .int .i64 x.f2], .pointer (some ⟨g, 0, none⟩)] (by rfl) ?_; (with_reducible refine (impl_putFile_1.calls x.f0 x.f1 x.f2 nm g _ HCW.out false HD.out).mono ?_); rintro e w8 ⟨rfl, hb⟩; refine ⟨_, rfl, ?_⟩; replace HB := bq HB hb; clear hb))
    go_roundg (l0.length - (i + 1))
    case measure => have := HK.out; omega
    case rel => exact ⟨i + 1, by first | rfl | (rw [WI.out]), ⟨by omega⟩, ⟨rfl⟩, HA3, ⟨hB HB⟩⟩
  have cib : decide ((i : Int) < (l0.length : Int)) = false := decide_eq_false (by omega)
  have HA2 := HA.out
  rw [List.drop_eq_nil_of_le (by omega), gtN] at HA2
  have HA3 := AM HA2
  clear HA2
  go_wp2
  go_ret
  exact ⟨by rw [← HA3.out]; (first | done | rfl), hB HB⟩

theorem atN_rng : ∀ (l : List S67) (nm : ByteArray) (i : Nat), atN l nm i = -1 ∨ ∃ j, i ≤ j ∧ j < i + l.length ∧ atN l nm i = (j : Int)
  | [], _, _ => .inl rfl
  | x :: l, nm, i => by
    unfold atN
    by_cases h : x.f0.toList = nm.toList
    · rw [if_pos h]
      exact .inr ⟨i, Nat.le_refl _, by simp, rfl⟩
    rw [if_neg h]
    rcases atN_rng l nm (i + 1) with e | ⟨j, h1, h2, e⟩
    · exact .inl e
    exact .inr ⟨j, by omega, by simp; omega, e⟩
theorem gtN_rng : ∀ (l : List S67) (nm : ByteArray) (i : Nat), gtN l nm i = -1 ∨ ∃ j, i ≤ j ∧ j < i + l.length ∧ gtN l nm i = (j : Int)
  | [], _, _ => .inl rfl
  | x :: l, nm, i => by
    unfold gtN
    by_cases h : Op.bytesLess nm.toList x.f0.toList = true
    · rw [if_pos h]
      exact .inr ⟨i, Nat.le_refl _, by simp, rfl⟩
    rw [if_neg h]
    rcases gtN_rng l nm (i + 1) with e | ⟨j, h1, h2, e⟩
    · exact .inl e
    exact .inr ⟨j, by omega, by simp; omega, e⟩
def PutPost (base gD : Nat) (v : Value) (l' : List S67) (w : World) (e : Ending) (w' : World) : Prop :=
  ∃ v', e = .returned (.tuple #[]) ∧ w'.heap[gD]? = some (.cells #[v'] 30 (0, 0)) ∧ Kd.R k67 67 w' base (fun _ => True) v' l' ∧ KeepBut w w' gD v.ownBlock ∧ Below base w w'
theorem own_type_blk {w : World} {base : Nat} {ok : Nat → Prop} {v : Value} {l : List S67} {gD t : Nat} {cs : Array Value} (h : Kd.R k67 67 w base ok v l) (hD : w.heap[gD]? = some (.cells cs t (0, 0))) (ht : 67 ≠ t) : v.ownBlock ≠ some gD := fun e => Kd.R_ne h hD ht e.symm
set_option maxHeartbeats 8000000 in
set_option maxRecDepth 100000 in
/-- there is such a file: it is put in its place -/
theorem put_set (gD : Nat) (v : Value) (l : List S67) (f0 f1 : ByteArray) (f2 : Int) (base : Nat) (w : World) (hD : w.heap[gD]? = some (.cells #[v] 30 (0, 0))) (hbg : base ≤ gD) (hR : Kd.R k67 67 w base (fun _ => True) v l) (hbase : base ≤ w.heap.size) (j : Nat) (hj : j < l.length) (he : atN l f0 0 = (j : Int)) :
    Calls Try.prog 49 #[.pointer (some ⟨gD, 0, none⟩), .agg #[.string f0, .string f1, .int .i64 f2]] w (PutPost base gD v (l.set j ⟨f0, f1, f2⟩) w) := by
  rcases (rowF_of hR).2 with ⟨_, h0⟩ | ⟨g, c, cl, rfl, hgb, hGw, hnc, hcm, hcs, htk⟩
  · omega
  have HGL := AM (blk_lt hGw)
  have HGW := AM hGw
  have HGB := AM hgb
  have HC := AM hnc
  have HCS := AM (show j * 3 + 3 ≤ cl.size by rw [hcs]; omega)
  obtain ⟨A, hA⟩ : ∃ A : Option Addr, A = some ⟨g, 0, none⟩ := ⟨_, rfl⟩
  rw [← hA] at hD hR ⊢
  have hu30 := Try.underlying30
  have hu67 := Try.underlying67
  have HD := AM hD
  have HO := AM hR
  have HA := AM hA
  have HK := AM (show impl_fileAt.f l f0 = some (j : Int) by unfold impl_fileAt.f; rw [he])
  have HB := AM (Below.refl w.heap.size w)
  have HBS := AM hbase
  have HBG := AM hbg
  clear hD hR hA he hbase hbg hgb hGw hnc hcm hcs htk
  go_enter Try.func49, Try.ntmps49
  go_upto_region 1 with (first | ((with_reducible refine gd 3 rfl ?_); refine bx (N := 3) (cs := #[.string f0, .string f1, .int .i64 f2]) (t := 67) ?_; intro gb3 hg w3 hbox hb; have BK3 := AM hbox; have GE3 := AM (bs hg HB); replace HB := bq HB hb; replace HO := AM (Kd.R_below (Kd.R_elderB HO.out gb3 (Nat.le_of_eq hg.symm)) hb); have NE3 := AM ((by rw [hg]; exact Nat.ne_of_lt (blk_lt HD.out)) : gD ≠ gb3); replace HD := AM (blk_below HD.out hb); clear hb hbox hg))
  replace HO := AM (Kd.R_drew HO.out)
  replace BK3 := AM (blk_drew BK3.out)
  replace HD := AM (blk_drew HD.out)
  replace HB := AM (below_drew1 HB.out)
  refine sr 7 (fun w' => w'.cell? ⟨gD, 0, none⟩ = some (.slice A l.length c) ∧ w'.cell? ⟨gb3, 0, none⟩ = some (.string f0)) [] ⟨(blk_cell HD.out 0).trans rfl, bc BK3 0⟩ (fun hHeld => ?_)
  generalize w3.drew = wd at HO BK3 HD HB hHeld ⊢
  refine pu 0 6 ?_; refine pu 1 7 ?_; refine pu 3 9 ?_; refine tu 2 8 ?_; refine tu 4 10 ?_
  refine ou 5 (some 11) fun K hK => ?_
  refine goes_ Try.func39 (by kernel_rfl) rfl #[.agg #[.slice A l.length c], .string f0] (by rfl) rfl rfl (by simp only [List.map_toArray, List.map_cons, List.map_nil]; rfl) ?_
  with_reducible refine (impl_fileAt.calls A c l f0 _ _ (Kd.R_reads' HO.out).2.2 HC.out HK.out).mono ?_
  rintro e w11 ⟨rfl, hb⟩
  refine ⟨_, rfl, ?_⟩
  replace HB := bq HB hb
  replace BK3 := bw BK3 hb
  replace HD := AM (blk_below HD.out hb)
  replace HO := AM (Kd.R_below HO.out hb)
  refine hK.out _ _ ⟨pw_cell_below hb hHeld.1, pw_cell_below hb hHeld.2⟩ (fun hHeld => ?_)
  clear hK K
  refine nr ?_
  refine pu 6 4 ?_
  refine done_ (by kernel_rfl) ?_
  go_upto_region 3 with (fail)
  obtain rfl := HA.out
  clear HA
  have p1 := eq_true (show 0 ≤ (j : Int) by omega)
  have q1 := eq_true (show (j : Int) < (l.length : Int) by omega)
  replace HO := AM (Kd.R_drew HO.out)
  replace BK3 := AM (blk_drew BK3.out)
  replace HD := AM (blk_drew HD.out)
  replace HB := AM (below_drew1 HB.out)
  refine sr 8 (fun w' => w'.cell? ⟨gD, 0, none⟩ = some (.slice (some ⟨g, 0, none⟩) l.length c) ∧ w'.cell? ⟨gb3, 0, none⟩ = some (.string f0) ∧ w'.cell? ⟨gb3, 1, none⟩ = some (.string f1) ∧ w'.cell? ⟨gb3, 2, none⟩ = some (.int .i64 f2)) [7] ⟨(blk_cell HD.out 0).trans rfl, bc BK3 0, bc BK3 1, bc BK3 2⟩ (fun hHeld => ?_)
  generalize w11.drew = we at HO BK3 HD HB hHeld ⊢
  have HST := AM (run_store_run (P := Try.prog) (w := we) (g := g) (o := j * 3) (e := 67) (cur := cl) 67 (.agg #[.string f0, .string f1, .int .i64 f2]) [.string f0, .string f1, .int .i64 f2] ((HB.out.block g HGL.out).trans HGW.out) rfl (by kernel_rfl) (by have h_ := HCS.out; simp only [List.length_cons, List.length_nil]; omega) (by intro u hu; simp at hu; rcases hu with rfl | rfl | rfl <;> rfl))
  refine pu 0 14 ?_; refine pu 1 15 ?_; refine pu 2 16 ?_; refine pu 4 18 ?_; refine tu 3 17 ?_; refine tu 5 19 ?_; refine pu 6 20 ?_
  refine zu 7 none fun K hK => ?_
  refine step_store_ran (by rfl) rfl 67 (.tmp 20) (.tmp 19) rfl (.pointer (some ⟨g, j * 3, none⟩)) (.agg #[.string f0, .string f1, .int .i64 f2]) (by rfl) (by rfl) HST.out ?_
  refine hK.out _ _ ?_
  clear hK K
  refine done_ (by kernel_rfl) ?_
  have hfin : PutPost base gD (.slice (some ⟨g, 0, none⟩) l.length c) (l.set j ⟨f0, f1, f2⟩) w (.returned (.tuple #[])) (we.setCells g (j * 3) [.string f0, .string f1, .int .i64 f2]) := by
    have hne : gD ≠ g := fun e => by
      have h1 := HD.out
      rw [e, HB.out.block g HGL.out, HGW.out] at h1
      injection h1 with h1
      injection h1 with _ h1
      exact absurd h1 (by decide)
    have hfar : ∀ k, k ≠ g → (we.setCells g (j * 3) [.string f0, .string f1, .int .i64 f2]).heap[k]? = we.heap[k]? := fun k hk => setCells_far _ _ k hk
    have hcc := (Kd.R_reads' HO.out).2.2
    obtain ⟨ad, e, hx0, hx1, hx2⟩ := at_T67 hcc (j : Int) (by omega) (by omega)
    cases e
    rw [add_plain] at hx0 hx1 hx2
    dsimp only at hx1 hx2
    have hseg := Kd.R_seg HO.out (j : Int) (by omega) (by omega) (c := [.string (rd_T67 l (j : Int)).f0, .string (rd_T67 l (j : Int)).f1, .int .i64 (rd_T67 l (j : Int)).f2]) (seg := [.string f0, .string f1, .int .i64 f2]) (j := 0) rfl (by
      intro q u hq
      rcases q with _ | _ | _ | q
      · simp at hq; subst hq; exact hx0
      · simp at hq; subst hq; exact hx1
      · simp at hq; subst hq; exact hx2
      simp at hq) (show 0 + 3 ≤ 3 by decide) (x' := ⟨f0, f1, f2⟩) (okp := fun k_ => (True ∧ k_ ≠ gb3) ∧ k_ ≠ g) (k67_mkM we _ _ ⟨f0, f1, f2⟩) (fun _ hk => hk)
    refine ⟨_, rfl, (hfar gD hne).trans HD.out, Kd.R_mono hseg.1 (fun _ _ => trivial), ⟨?_, fun i hi _ hr => ?_⟩, ?_⟩
    · exact Nat.le_trans HB.out.size hseg.2.size
    · exact (hfar i (fun e => hr (by rw [e]; rfl))).trans (HB.out.block i hi)
    exact Below.trans (HB.out.mono HBS.out) ⟨hseg.2.os, hseg.2.tape, hseg.2.output, hseg.2.size, fun k hk => hfar k (by have := HGB.out; omega)⟩
  clear HST
  generalize we.setCells g (j * 3) [.string f0, .string f1, .int .i64 f2] = wz at hfin ⊢
  have HF := AM hfin
  clear hfin
  (try simp only [Exit.inBlock, Exit.then])
  go_wp2
  first | exact bodyPost_ret (v := .tuple #[]) (by first | rfl | simp [results, go_sem]) rfl HF.out | (go_end0; exact HF.out)

set_option maxHeartbeats 8000000 in
set_option maxRecDepth 100000 in
/-- there is none: it is put behind those ahead of it -/
theorem put_ins (gD : Nat) (v : Value) (l : List S67) (f0 f1 : ByteArray) (f2 : Int) (base : Nat) (w : World) (hD : w.heap[gD]? = some (.cells #[v] 30 (0, 0))) (hbg : base ≤ gD) (hR : Kd.R k67 67 w base (fun _ => True) v l) (hbase : base ≤ w.heap.size) (hl : l.length ≤ 100000) (he : atN l f0 0 = -1) (R2 : Int) (hgt : gtN l f0 0 = R2) (i : Nat) (hi : (R2 = -1 ∧ i = l.length) ∨ (R2 = (i : Int) ∧ i ≤ l.length)) :
    Calls Try.prog 49 #[.pointer (some ⟨gD, 0, none⟩), .agg #[.string f0, .string f1, .int .i64 f2]] w (PutPost base gD v (l.take i ++ ⟨f0, f1, f2⟩ :: l.drop i) w) := by
  obtain ⟨L, hL⟩ : ∃ L, L = l.take i ++ ⟨f0, f1, f2⟩ :: l.drop i := ⟨_, rfl⟩
  rw [← hL]
  have HL := AM hL
  clear hL
  obtain ⟨A, c, rfl, hnc, _⟩ := Kd.R_reads hR
  have HC := AM hnc
  have hu30 := Try.underlying30
  have hu67 := Try.underlying67
  have HD := AM hD
  have HD0 := AM hD
  have HO := AM hR
  have HK := AM (show impl_fileAt.f l f0 = some (-1) by unfold impl_fileAt.f; rw [he])
  have HGT := AM hgt
  have HB := AM (Below.refl w.heap.size w)
  have HBS := AM hbase
  have HBG := AM hbg
  have HN := AM hl
  have HII := AM hi
  have HBV := AM (fun k hk => own_base (rowF_of hR) k hk)
  clear hD hR he hbase hbg hnc hl hgt hi
  go_enter Try.func49, Try.ntmps49
  go_upto_region 1 with (first | ((with_reducible refine gd 3 rfl ?_); refine bx (N := 3) (cs := #[.string f0, .string f1, .int .i64 f2]) (t := 67) ?_; intro gb3 hg w3 hbox hb; have BK3 := AM hbox; have GE3 := AM (bs hg HB); replace HB := bq HB hb; replace HO := AM (Kd.R_below (Kd.R_elderB HO.out gb3 (Nat.le_of_eq hg.symm)) hb); have NE3 := AM ((by rw [hg]; exact Nat.ne_of_lt (blk_lt HD.out)) : gD ≠ gb3); replace HD := AM (blk_below HD.out hb); clear hb hbox hg))
  replace HO := AM (Kd.R_drew HO.out)
  replace BK3 := AM (blk_drew BK3.out)
  replace HD := AM (blk_drew HD.out)
  replace HB := AM (below_drew1 HB.out)
  refine sr 7 (fun w' => w'.cell? ⟨gD, 0, none⟩ = some (.slice A l.length c) ∧ w'.cell? ⟨gb3, 0, none⟩ = some (.string f0)) [] ⟨(blk_cell HD.out 0).trans rfl, bc BK3 0⟩ (fun hHeld => ?_)
  generalize w3.drew = wd at HO BK3 HD HB hHeld ⊢
  refine pu 0 6 ?_; refine pu 1 7 ?_; refine pu 3 9 ?_; refine tu 2 8 ?_; refine tu 4 10 ?_
  refine ou 5 (some 11) fun K hK => ?_
  refine goes_ Try.func39 (by kernel_rfl) rfl #[.agg #[.slice A l.length c], .string f0] (by rfl) rfl rfl (by simp only [List.map_toArray, List.map_cons, List.map_nil]; rfl) ?_
  with_reducible refine (impl_fileAt.calls A c l f0 _ _ (Kd.R_reads' HO.out).2.2 HC.out HK.out).mono ?_
  rintro e w11 ⟨rfl, hb⟩
  refine ⟨_, rfl, ?_⟩
  replace HB := bq HB hb
  replace BK3 := bw BK3 hb
  replace HD := AM (blk_below HD.out hb)
  replace HO := AM (Kd.R_below HO.out hb)
  refine hK.out _ _ ⟨pw_cell_below hb hHeld.1, pw_cell_below hb hHeld.2⟩ (fun hHeld => ?_)
  clear hK K
  refine nr ?_
  refine pu 6 4 ?_
  refine done_ (by kernel_rfl) ?_
  have hcz_1 : w11.cell? ⟨gD, 0, none⟩ = some (.slice A l.length c) := (blk_cell HD.out 0).trans rfl
  rcases HII.out with ⟨rfl, rfl⟩ | ⟨rfl, hi2⟩
  · go_upto_region 7 with (first | ((with_reducible refine gc 66 rfl ?_); refine gl 26 Try.func66 #[.slice A l.length c, .func (.func 69) #[] #[.pointer (some ⟨gb3, 0, none⟩)]] ?_; (with_reducible refine (impl_putFile_idx A c l f0 gb3 _ ?side1 ?side2 ?side3).mono ?_); (case side1 => exact (Kd.R_reads' HO.out).2.2); (case side2 => exact HC.out); (case side3 => exact bc BK3 0); rintro e w26 ⟨rfl, hb⟩; refine ⟨_, by rw [HGT.out], ?_⟩; replace HB := bq HB hb; replace BK3 := bw BK3 hb; replace HD := AM (blk_below HD.out hb); replace HO := AM (Kd.R_below HO.out hb); have hcz_1 : w26.cell? ⟨gD, 0, none⟩ = some (.slice A l.length c) := (blk_cell HD.out 0).trans rfl; clear hb))
    clear hcz_1
    replace HO := AM (Kd.R_drew HO.out)
    replace BK3 := AM (blk_drew BK3.out)
    replace HD := AM (blk_drew HD.out)
    replace HB := AM (below_drew1 HB.out)
    refine sr 12 (fun w' => w'.cell? ⟨gD, 0, none⟩ = some (.slice A l.length c) ∧ w'.cell? ⟨gb3, 0, none⟩ = some (.string f0) ∧ w'.cell? ⟨gb3, 1, none⟩ = some (.string f1) ∧ w'.cell? ⟨gb3, 2, none⟩ = some (.int .i64 f2)) [8, 11] ⟨(blk_cell HD.out 0).trans rfl, bc BK3 0, bc BK3 1, bc BK3 2⟩ (fun hHeld => ?_)
    generalize w26.drew = wf at HO BK3 HD HB hHeld ⊢
    refine pu 0 34 ?_; refine pu 1 35 ?_; refine pu 2 36 ?_; refine pu 3 37 ?_; refine pu 5 39 ?_; refine tu 4 38 ?_; refine tu 6 40 ?_
    refine ou 7 (some 41) fun K hK => ?_
    refine value_ (w1 := wf.alloc (.cells #[.string f0, .string f1, .int .i64 f2] 67)) (v := .slice (some ⟨wf.heap.size, 0, none⟩) 1 1) (by rfl) rfl ?_ ?_
    · go_simp
    refine hK.out _ _ ⟨(by exact pw_cell_below (below_alloc (Below.refl _ _) _) hHeld.1), (by exact pw_cell_below (below_alloc (Below.refl _ _) _) hHeld.2.1), (by exact pw_cell_below (below_alloc (Below.refl _ _) _) hHeld.2.2.1), (by exact pw_cell_below (below_alloc (Below.refl _ _) _) hHeld.2.2.2)⟩ (fun hHeld => ?_)
    clear hK K
    refine nr ?_
    refine zu 8 (some 42) fun K hK => ?_
    have BKV := AM (heap_alloc_new wf (.cells #[.string f0, .string f1, .int .i64 f2] 67))
    replace HB := AM (below_alloc HB.out (.cells #[.string f0, .string f1, .int .i64 f2] 67))
    replace HD := AM (blk_alloc HD.out (.cells #[.string f0, .string f1, .int .i64 f2] 67))
    have NEV := AM (Kd.fresh_ok HO.out wf.heap.size (Nat.le_refl _))
    replace HO := AM (Kd.R_alloc HO.out (.cells #[.string f0, .string f1, .int .i64 f2] 67))
    generalize hwg : wf.alloc (.cells #[.string f0, .string f1, .int .i64 f2] 67) = wg at HO HB HD BKV ⊢
    clear hwg
    refine goes_ Try.func70 (by kernel_rfl) rfl #[.slice A l.length c, .int .i64 (l.length : Int), .slice (some ⟨wf.heap.size, 0, none⟩) 1 1] (by rfl) rfl rfl (by simp only [List.map_toArray, List.map_cons, List.map_nil]; rfl) ?_
    with_reducible refine (insR base wf.heap.size l.length (.slice A l.length c) l ⟨f0, f1, f2⟩ wg (Kd.R_mono HO.out (fun _ _ => trivial)) (Nat.le_refl _) HN.out (Nat.le_trans HBS.out HB.out.size) BKV.out NEV.out).mono ?_
    rintro e w42 ⟨v', rfl, hr, hg, hat⟩
    refine ⟨_, rfl, ?_⟩
    obtain ⟨A', n', c', rfl⟩ : ∃ A' n' c', v' = .slice A' n' c' := by obtain ⟨A', c', h⟩ := Kd.R_slice hr; exact ⟨A', _, c', h⟩
    have n2_ := AM (blk_grown HD.out hg (Ne.symm (own_type_blk HO.out HD.out (by decide))))
    have n1_ := AM (Kd.R_mono hr (fun _ _ => trivial))
    have hcz_2 : w42.cell? ⟨gD, 0, none⟩ = some (.slice A l.length c) := (blk_cell n2_.out 0).trans rfl
    have hfz_2 := blk_frozen n2_.out 0
    have GR := AM hg
    clear hg hat hr HD
    have HD := n2_
    have HR := n1_
    clear n1_ n2_
    refine hK.out _ _ ?_
    clear hK K
    refine nr ?_
    refine pu 9 43 ?_; refine pu 10 44 ?_
    refine zu 11 none fun K hK => ?_
    refine sk ?_
    refine hK.out _ _ ?_
    clear hK K
    refine done_ (by kernel_rfl) ?_
    (try simp only [Exit.inBlock, Exit.then])
    have hr : Kd.R k67 67 w42 base (fun _ => True) (.slice A' n' c') L := by rw [HL.out]; exact HR.out
    have hfin : PutPost base gD (.slice A l.length c) L w (.returned (.tuple #[])) (w42.setCell ⟨gD, 0, none⟩ (.slice A' n' c')) := by
      have hbase : ∀ k, k < base → (w42.setCell ⟨gD, 0, none⟩ (.slice A' n' c')).heap[k]? = w.heap[k]? := fun k hk => by
        have h1 := HBG.out
        have h2 := HBS.out
        have h3 := HB.out.size
        exact (Below.heap_setCell w42 _ _ k (show k ≠ gD by omega)).trans ((GR.out.block k (by omega) (fun e => by have := HBV.out k e.symm; omega)).trans (HB.out.block k (by omega)))
      have hsz : w.heap.size ≤ (w42.setCell ⟨gD, 0, none⟩ (.slice A' n' c')).heap.size := by
        have h3 := HB.out.size
        have h4 := GR.out.size
        simp only [World.setCell, Array.size_modify]
        omega
      refine ⟨_, rfl, (blk_set HD.out 0 _).trans rfl, Kd.R_mono (Kd.R_far (p := ⟨gD, 0, none⟩) (Kd.R_types hr HD.out (by decide)) (fun _ hk => hk.2) _) (fun _ _ => trivial), ⟨hsz, fun k hk hkD hkr => ?_⟩, ⟨?_, ?_, ?_, hsz, hbase⟩⟩
      · have h3 := HB.out.size
        exact (Below.heap_setCell w42 _ _ k hkD).trans ((GR.out.block k (by omega) hkr).trans (HB.out.block k hk))
      · exact GR.out.os.trans HB.out.os
      · exact GR.out.tape.trans HB.out.tape
      exact GR.out.output.trans HB.out.output
    refine bodyPost_end (results_none rfl _ _ _) rfl ?_
    exact hfin
  have p2 := eq_true (show 0 ≤ (i : Int) by omega)
  have HI2 := AM hi2
  clear hi2
  go_upto_region 7 with (first | ((with_reducible refine gc 66 rfl ?_); refine gl 26 Try.func66 #[.slice A l.length c, .func (.func 69) #[] #[.pointer (some ⟨gb3, 0, none⟩)]] ?_; (with_reducible refine (impl_putFile_idx A c l f0 gb3 _ ?side1 ?side2 ?side3).mono ?_); (case side1 => exact (Kd.R_reads' HO.out).2.2); (case side2 => exact HC.out); (case side3 => exact bc BK3 0); rintro e w26 ⟨rfl, hb⟩; refine ⟨_, by rw [HGT.out], ?_⟩; replace HB := bq HB hb; replace BK3 := bw BK3 hb; replace HD := AM (blk_below HD.out hb); replace HO := AM (Kd.R_below HO.out hb); have hcz_1 : w26.cell? ⟨gD, 0, none⟩ = some (.slice A l.length c) := (blk_cell HD.out 0).trans rfl; clear hb))
  clear hcz_1
  replace HO := AM (Kd.R_drew HO.out)
  replace BK3 := AM (blk_drew BK3.out)
  replace HD := AM (blk_drew HD.out)
  replace HB := AM (below_drew1 HB.out)
  refine sr 12 (fun w' => w'.cell? ⟨gD, 0, none⟩ = some (.slice A l.length c) ∧ w'.cell? ⟨gb3, 0, none⟩ = some (.string f0) ∧ w'.cell? ⟨gb3, 1, none⟩ = some (.string f1) ∧ w'.cell? ⟨gb3, 2, none⟩ = some (.int .i64 f2)) [8, 11] ⟨(blk_cell HD.out 0).trans rfl, bc BK3 0, bc BK3 1, bc BK3 2⟩ (fun hHeld => ?_)
  generalize w26.drew = wf at HO BK3 HD HB hHeld ⊢
  refine pu 0 34 ?_; refine pu 1 35 ?_; refine pu 2 36 ?_; refine pu 3 37 ?_; refine pu 5 39 ?_; refine tu 4 38 ?_; refine tu 6 40 ?_
  refine ou 7 (some 41) fun K hK => ?_
  refine value_ (w1 := wf.alloc (.cells #[.string f0, .string f1, .int .i64 f2] 67)) (v := .slice (some ⟨wf.heap.size, 0, none⟩) 1 1) (by rfl) rfl ?_ ?_
  · go_simp
  refine hK.out _ _ ⟨(by exact pw_cell_below (below_alloc (Below.refl _ _) _) hHeld.1), (by exact pw_cell_below (below_alloc (Below.refl _ _) _) hHeld.2.1), (by exact pw_cell_below (below_alloc (Below.refl _ _) _) hHeld.2.2.1), (by exact pw_cell_below (below_alloc (Below.refl _ _) _) hHeld.2.2.2)⟩ (fun hHeld => ?_)
  clear hK K
  refine nr ?_
  refine zu 8 (some 42) fun K hK => ?_
  have BKV := AM (heap_alloc_new wf (.cells #[.string f0, .string f1, .int .i64 f2] 67))
  replace HB := AM (below_alloc HB.out (.cells #[.string f0, .string f1, .int .i64 f2] 67))
  replace HD := AM (blk_alloc HD.out (.cells #[.string f0, .string f1, .int .i64 f2] 67))
  have NEV := AM (Kd.fresh_ok HO.out wf.heap.size (Nat.le_refl _))
  replace HO := AM (Kd.R_alloc HO.out (.cells #[.string f0, .string f1, .int .i64 f2] 67))
  generalize hwg : wf.alloc (.cells #[.string f0, .string f1, .int .i64 f2] 67) = wg at HO HB HD BKV ⊢
  clear hwg
  refine goes_ Try.func70 (by kernel_rfl) rfl #[.slice A l.length c, .int .i64 (i : Int), .slice (some ⟨wf.heap.size, 0, none⟩) 1 1] (by rfl) rfl rfl (by simp only [List.map_toArray, List.map_cons, List.map_nil]; rfl) ?_
  with_reducible refine (insR base wf.heap.size i (.slice A l.length c) l ⟨f0, f1, f2⟩ wg (Kd.R_mono HO.out (fun _ _ => trivial)) HI2.out HN.out (Nat.le_trans HBS.out HB.out.size) BKV.out NEV.out).mono ?_
  rintro e w42 ⟨v', rfl, hr, hg, hat⟩
  refine ⟨_, rfl, ?_⟩
  obtain ⟨A', n', c', rfl⟩ : ∃ A' n' c', v' = .slice A' n' c' := by obtain ⟨A', c', h⟩ := Kd.R_slice hr; exact ⟨A', _, c', h⟩
  have n2_ := AM (blk_grown HD.out hg (Ne.symm (own_type_blk HO.out HD.out (by decide))))
  have n1_ := AM (Kd.R_mono hr (fun _ _ => trivial))
  have hcz_2 : w42.cell? ⟨gD, 0, none⟩ = some (.slice A l.length c) := (blk_cell n2_.out 0).trans rfl
  have hfz_2 := blk_frozen n2_.out 0
  have GR := AM hg
  clear hg hat hr HD
  have HD := n2_
  have HR := n1_
  clear n1_ n2_
  refine hK.out _ _ ?_
  clear hK K
  refine nr ?_
  refine pu 9 43 ?_; refine pu 10 44 ?_
  refine zu 11 none fun K hK => ?_
  refine sk ?_
  refine hK.out _ _ ?_
  clear hK K
  refine done_ (by kernel_rfl) ?_
  (try simp only [Exit.inBlock, Exit.then])
  have hr : Kd.R k67 67 w42 base (fun _ => True) (.slice A' n' c') L := by rw [HL.out]; exact HR.out
  have hfin : PutPost base gD (.slice A l.length c) L w (.returned (.tuple #[])) (w42.setCell ⟨gD, 0, none⟩ (.slice A' n' c')) := by
    have hbase : ∀ k, k < base → (w42.setCell ⟨gD, 0, none⟩ (.slice A' n' c')).heap[k]? = w.heap[k]? := fun k hk => by
      have h1 := HBG.out
      have h2 := HBS.out
      have h3 := HB.out.size
      exact (Below.heap_setCell w42 _ _ k (show k ≠ gD by omega)).trans ((GR.out.block k (by omega) (fun e => by have := HBV.out k e.symm; omega)).trans (HB.out.block k (by omega)))
    have hsz : w.heap.size ≤ (w42.setCell ⟨gD, 0, none⟩ (.slice A' n' c')).heap.size := by
      have h3 := HB.out.size
      have h4 := GR.out.size
      simp only [World.setCell, Array.size_modify]
      omega
    refine ⟨_, rfl, (blk_set HD.out 0 _).trans rfl, Kd.R_mono (Kd.R_far (p := ⟨gD, 0, none⟩) (Kd.R_types hr HD.out (by decide)) (fun _ hk => hk.2) _) (fun _ _ => trivial), ⟨hsz, fun k hk hkD hkr => ?_⟩, ⟨?_, ?_, ?_, hsz, hbase⟩⟩
    · have h3 := HB.out.size
      exact (Below.heap_setCell w42 _ _ k hkD).trans ((GR.out.block k (by omega) hkr).trans (HB.out.block k hk))
    · exact GR.out.os.trans HB.out.os
    · exact GR.out.tape.trans HB.out.tape
    exact GR.out.output.trans HB.out.output
  refine bodyPost_end (results_none rfl _ _ _) rfl ?_
  exact hfin
/-! #### stores into a block known whole: the world behind is a letter -/
theorem rowF_mk' {w : World} {base : Nat} {ok : Nat → Prop} {v : Value} {l : List S67} (h : w.ownsRow base 67 3 v l.length (flatF l)) (hok : ∀ k, v.ownBlock = some k → ok k) : Kd.R k67 67 w base ok v l := ⟨hok, flatF l, h, flat_reps l⟩
def putL (l : List S67) (f : S67) : List S67 := if 0 ≤ atN l f.f0 0 then l.set (atN l f.f0 0).toNat f else if gtN l f.f0 0 < 0 then l ++ [f] else l.take (gtN l f.f0 0).toNat ++ f :: l.drop (gtN l f.f0 0).toNat
theorem impl_putFile.calls (gD : Nat) (v : Value) (l : List S67) (f0 f1 : ByteArray) (f2 : Int) (base : Nat) (w : World) (hD : w.heap[gD]? = some (.cells #[v] 30 (0, 0))) (hbg : base ≤ gD) (hR : Kd.R k67 67 w base (fun _ => True) v l) (hbase : base ≤ w.heap.size) (hl : l.length ≤ 100000) :
    Calls Try.prog 49 #[.pointer (some ⟨gD, 0, none⟩), .agg #[.string f0, .string f1, .int .i64 f2]] w (PutPost base gD v (putL l ⟨f0, f1, f2⟩) w) := by
  rcases atN_rng l f0 0 with e | ⟨j, _, hj, e⟩
  · rcases gtN_rng l f0 0 with e2 | ⟨i, _, hi, e2⟩
    · have h := put_ins gD v l f0 f1 f2 base w hD hbg hR hbase hl e (-1) e2 l.length (.inl ⟨rfl, rfl⟩)
      have hp : putL l ⟨f0, f1, f2⟩ = l.take l.length ++ ⟨f0, f1, f2⟩ :: l.drop l.length := by
        unfold putL
        dsimp only
        rw [e, e2, if_neg (by omega), if_pos (by omega), List.take_length, List.drop_length]
      rw [hp]
      exact h
    have h := put_ins gD v l f0 f1 f2 base w hD hbg hR hbase hl e (i : Int) e2 i (.inr ⟨rfl, by omega⟩)
    have hp : putL l ⟨f0, f1, f2⟩ = l.take i ++ ⟨f0, f1, f2⟩ :: l.drop i := by
      unfold putL
      dsimp only
      rw [e, e2, if_neg (by omega), if_neg (by omega), Int.toNat_natCast]
    rw [hp]
    exact h
  have h := put_set gD v l f0 f1 f2 base w hD hbg hR hbase j (by omega) e
  have hp : putL l ⟨f0, f1, f2⟩ = l.set j ⟨f0, f1, f2⟩ := by
    unfold putL
    dsimp only
    rw [e, if_pos (by omega), Int.toNat_natCast]
  rw [hp]
  exact h
def ActPost (l' : List S67) (b : Bool) (w : World) (e : Ending) (w' : World) : Prop := ∃ v0_ : Value, e = .returned (.tuple #[.agg #[v0_], .bool b]) ∧ Kd.R k67 67 w' w.heap.size (fun _ => True) v0_ l' ∧ Below w.heap.size w w'


/-! ### impl_File_50: function 50 -/
/-! not wanted here -/


end Go.Proofs.Ytnkldnkolcighaa.XFnActs
