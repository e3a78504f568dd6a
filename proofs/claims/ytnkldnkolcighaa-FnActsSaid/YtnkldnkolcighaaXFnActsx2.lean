/- What the functions of a law compute, and that their calls compute it: written by a program of this session (xprint.py), which turns the kit print at a few places. -/
import Derived.Test.YtnkldnkolcighaaXFnActsx0
namespace Go.Proofs.Ytnkldnkolcighaa.XFnActs
open Go.RowKit Go.Proofs.YtnkldnkolcighaaQ.PrintWords Go.Proofs.YtnkldnkolcighaaQ.PrintLast Go.Proofs.YtnkldnkolcighaaQ.PrintMore
attribute [local go_sem] max2_int min2_int max_two min_two max_three min_three max_four min_four str_geq str_gtr   -- for this text's walks alone
set_option linter.unusedVariables false
set_option linter.unusedSimpArgs false

/-! ### impl_AllKept_1: function 44 -/
/-! not wanted here -/


/-! ### impl_File_66: function 66 -/
/-! not wanted here -/


/-! ### impl_fileAt: function 39 -/
theorem wsuccI {i : Nat} (h : i < 9223372036854775807) : wrap64 ((i : Int) + 1) = ((i + 1 : Nat) : Int) := by
  unfold wrap64
  omega
theorem goesC_ {P : Program} {ops : Array Oper} {rest : List Oper} {a : Act} {Q : Exit → Act → World → Prop} (T : Tmp) {oi : Oper} {w : World} (N : Option Tmp) (hd : oi.dst = N) (hg : oi.guard = none) {f : FuncId} {lb : Array Value} (hT : a.eval (.tmp T) = .func (.func f) #[] lb) {fn : Func} {ags : Array Operand} {ts : Array TypeId} (hf : P.funcs[f]? = some fn) (hname : (fn.name == "runtime.NumGoroutine") = false) (hb : fn.body.isSome = true) (args : Array Value)
    (hop : oi.op = .call { callee := .value (.tmp T), args := ags, argTypes := ts }) (hargs : ags.map a.eval = args) (all : Array Value) (hall : args ++ lb = all)
    (h : Calls P f all w fun e w' => ∃ v, e = .returned v ∧ wpList P ops Q rest (a.put N v) w') : wpList P ops Q (oi :: rest) a w := by
  subst hall
  refine wpList_plain hg fun K hK => ?_
  have he := enters_ hf hname hb (args ++ lb) w
  have hrun : (execOp a.eval oi).run P w = .ok (.enter f (args ++ lb)) w := by
    unfold execOp
    simp [hop, resolve, hT, Deferred.ofValue, invoke, hargs, he]
  unfold Oper.wp
  rw [hrun, Oper.upon_enter]
  refine h.mono fun e w'' hh => ?_
  obtain ⟨v, rfl, hk⟩ := hh
  subst hd
  exact hK _ _ hk
def atN : List S67 → ByteArray → Nat → Int
  | [], _, _ => -1
  | x :: l, nm, i => if x.f0.toList = nm.toList then (i : Int) else atN l nm (i + 1)
def impl_fileAt.f (l0_0 : List S67) (a1 : ByteArray) : Option Int := some (atN l0_0 a1 0)
set_option maxHeartbeats 8000000 in
set_option maxRecDepth 100000 in
theorem impl_fileAt_1.calls (a0_0 : ByteArray) (a0_1 : ByteArray) (a0_2 : Int) (nm : ByteArray) (g : Nat) (w : World) (hc : w.cell? ⟨g, 0, none⟩ = some (.string nm)) (r : Bool) (hr : r = decide (a0_0.toList = nm.toList)) :
    Calls Try.prog 67 #[.agg #[.string a0_0, .string a0_1, .int .i64 a0_2], .pointer (some ⟨g, 0, none⟩)] w fun e w' => e = .returned (.bool r) ∧ Below w.heap.size w w' := by
  have hu67 := Try.underlying67
  have HB := Aside0.mk (Below.refl w.heap.size w)
  have HC := Aside0.mk hc
  have HR := Aside0.mk hr
  clear hc hr
  go_enter Try.func67, Try.ntmps67
  go_wp2_with (first | ((with_reducible refine gate_dst (N := 2) rfl ?_); refine box_event ?hg (N := 2) ?hd (cs := #[.string a0_0, .string a0_1, .int .i64 a0_2]) (t := 67) ?hr ?_; (case hd => rfl); (case hg => rfl); (case hr => first | (go_simp; done) | (go_simp; rfl)); intro gb1 hg w1 hbox hb; have n0_ := Aside0.mk (below_step (by repeat (first | (with_reducible first | exact HB.out | apply below_alloc | apply pw_below_drewN | apply below_drew1) | exact HB.out)) hb); have n1_ := Aside0.mk hbox; have n2_ := Aside0.mk ((by rw [hg]; exact (below_size (by repeat (first | (with_reducible first | exact HB.out | apply below_alloc | apply pw_below_drewN | apply below_drew1) | exact HB.out)))) : w.heap.size ≤ gb1); clear HB; have HB := n0_; have BK := n1_; have GW := n2_; clear n0_ n1_ n2_; have hcz_0 : w1.cell? ⟨gb1, 0, none⟩ = some (.string a0_0) := (blk_cell BK.out 0).trans rfl; have hcg : w1.cell? ⟨g, 0, none⟩ = some (.string nm) := (hb.cell (World.block_lt_of_cell? _ _ HC.out)).trans HC.out; clear hb hbox hg))
  go_ret
  rw [HR.out]
  exact ⟨by rw [show (a0_0.toList == nm.toList) = decide (a0_0.toList = nm.toList) from by rw [Bool.eq_iff_iff]; simp]; rfl, by repeat (first | (with_reducible first | exact HB.out | apply below_alloc | apply pw_below_drewN | apply below_drew1) | exact HB.out)⟩
set_option maxHeartbeats 8000000 in
set_option maxRecDepth 100000 in
theorem impl_fileAt_idx (A0 : Option Addr) (c0 : Nat) (l0 : List S67) (nm : ByteArray) (g : Nat) (w : World) (hr0 : Kd.C k67 w A0 l0.length l0) (hc0 : l0.length ≤ c0) (hc : w.cell? ⟨g, 0, none⟩ = some (.string nm)) :
    Calls Try.prog 66 #[.slice A0 l0.length c0, .func (.func 67) #[] #[.pointer (some ⟨g, 0, none⟩)]] w fun e w' => e = .returned (.int .i64 (atN l0 nm 0)) ∧ Below w.heap.size w w' := by
  have HR0 := Aside0.mk hr0
  have HC0 := Aside0.mk hc0
  have HC := Aside0.mk hc
  have hmx : l0.length ≤ 9223372036854775807 := hr0.2.1
  clear hr0 hc0 hc
  have HB := Aside0.mk (Below.refl w.heap.size w)
  go_enter Try.func66, Try.ntmps66
  go_wp2
  go_loopg [8] l0.length (fun kq v8 w' => ∃ i : Nat, v8 = .int .i64 (i : Int) ∧ Aside0 (i ≤ l0.length) ∧ Aside0 (kq = l0.length - i) ∧ Aside0 (atN (l0.drop i) nm i = atN l0 nm 0) ∧ Aside0 (Below w.heap.size w w'))
  case atStart => exact ⟨0, rfl, ⟨Nat.zero_le _⟩, ⟨rfl⟩, ⟨rfl⟩, ⟨by repeat (first | (with_reducible first | exact HB.out | apply below_alloc | apply pw_below_drewN | apply below_drew1) | exact HB.out)⟩⟩
  case round =>
    clear HB
    obtain ⟨i, rfl, HI, HK, HA, HB⟩ := hrel
    by_cases ci : i < l0.length
    · have cib : decide ((i : Int) < (l0.length : Int)) = true := decide_eq_true (by omega)
      have p1 : 0 ≤ (i : Int) := by omega
      have q1 : (i : Int) < (l0.length : Int) := by omega
      have hdr : l0.drop i = l0[i] :: l0.drop (i + 1) := List.drop_eq_getElem_cons ci
      have hrd : rd_T67 l0 (i : Int) = l0[i] := by unfold rd_T67; rw [Int.toNat_natCast, List.getD_eq_getElem?_getD, List.getElem?_eq_getElem ci]; rfl
      obtain ⟨ad1, e1, hx0, hx1, hx2⟩ := at_T67 HR0.out (i : Int) p1 q1
      cases e1
      rw [hrd] at hx0 hx1 hx2
      rw [Int.toNat_natCast] at hx0 hx1 hx2
      obtain ⟨x, hx⟩ : ∃ x, x = l0[i] := ⟨_, rfl⟩
      rw [← hx] at hx0 hx1 hx2 hdr
      have HA2 := HA.out
      rw [hdr, atN] at HA2
      replace hx0 := (HB.out.cell (World.block_lt_of_cell? w _ hx0)).trans hx0
      replace hx1 := (HB.out.cell (World.block_lt_of_cell? w _ hx1)).trans hx1
      replace hx2 := (HB.out.cell (World.block_lt_of_cell? w _ hx2)).trans hx2
      have HCW := Aside0.mk ((HB.out.cell (World.block_lt_of_cell? w _ HC.out)).trans HC.out)
      replace p1 := eq_true p1
      replace q1 := eq_true q1
      have wi := wsuccI (i := i) (by omega)
      by_cases ce : x.f0.toList = nm.toList
      · rw [if_pos ce] at HA2
        have HD := Aside0.mk (show true = decide (x.f0.toList = nm.toList) from (decide_eq_true ce).symm)
        have HA3 := Aside0.mk HA2
        clear ce hrd hdr hx HA2 wi
        go_wp2_with (first | ((with_reducible refine gate_calleeT (T := 11) rfl ?_); refine goesC_ 11 (some 16) rfl rfl rfl Try.func67 (by kernel_rfl) rfl #[.agg #[.string x.f0, .string x.f1, .int .i64 x.f2]] rfl (by (try simp only [List.map_toArray, List.map_cons, List.map_nil]); first | done | rfl) #[.agg #[.string x.f0, .string x.f1, .int .i64 x.f2], .pointer (some ⟨g, 0, none⟩)] (by rfl) ?_; (with_reducible refine (impl_fileAt_1.calls x.f0 x.f1 x.f2 nm g _ HCW.out true HD.out).mono ?_); rintro e w8 ⟨rfl, hb⟩; refine ⟨_, rfl, ?_⟩; have n0_ := Aside0.mk (below_step (by repeat (first | (with_reducible first | exact HB.out | apply below_alloc | apply pw_below_drewN | apply below_drew1) | exact HB.out)) hb); clear HB; have HB := n0_; clear n0_ hb))
        go_ret
        exact ⟨by rw [← HA3.out]; (first | done | rfl), by repeat (first | (with_reducible first | exact HB.out | apply below_alloc | apply pw_below_drewN | apply below_drew1) | exact HB.out)⟩
      · rw [if_neg ce] at HA2
        have HD := Aside0.mk (show false = decide (x.f0.toList = nm.toList) from (decide_eq_false ce).symm)
        have HA3 := Aside0.mk HA2
        have WI := Aside0.mk wi
        clear ce hrd hdr hx HA2 wi
        go_wp2_with (first | ((with_reducible refine gate_calleeT (T := 11) rfl ?_); refine goesC_ 11 (some 16) rfl rfl rfl Try.func67 (by kernel_rfl) rfl #[.agg #[.string x.f0, .string x.f1, .int .i64 x.f2]] rfl (by (try simp only [List.map_toArray, List.map_cons, List.map_nil]); first | done | rfl) #[.agg #[.string x.f0, .string x.f1, .int .i64 x.f2], .pointer (some ⟨g, 0, none⟩)] (by rfl) ?_; (with_reducible refine (impl_fileAt_1.calls x.f0 x.f1 x.f2 nm g _ HCW.out false HD.out).mono ?_); rintro e w8 ⟨rfl, hb⟩; refine ⟨_, rfl, ?_⟩; have n0_ := Aside0.mk (below_step (by repeat (first | (with_reducible first | exact HB.out | apply below_alloc | apply pw_below_drewN | apply below_drew1) | exact HB.out)) hb); clear HB; have HB := n0_; clear n0_ hb))
        go_roundg (l0.length - (i + 1))
        case measure => have := HK.out; omega
        case rel => exact ⟨i + 1, by first | rfl | (rw [WI.out]), ⟨by omega⟩, ⟨rfl⟩, HA3, ⟨by repeat (first | (with_reducible first | exact HB.out | apply below_alloc | apply pw_below_drewN | apply below_drew1) | exact HB.out)⟩⟩
    · have cib : decide ((i : Int) < (l0.length : Int)) = false := decide_eq_false (by omega)
      have HA2 := HA.out
      rw [List.drop_eq_nil_of_le (by omega), atN] at HA2
      have HA3 := Aside0.mk HA2
      clear HA2
      go_wp2
      go_ret
      exact ⟨by rw [← HA3.out]; (first | done | rfl), by repeat (first | (with_reducible first | exact HB.out | apply below_alloc | apply pw_below_drewN | apply below_drew1) | exact HB.out)⟩
set_option maxHeartbeats 8000000 in
set_option maxRecDepth 100000 in
theorem impl_fileAt.calls (A0_0 : Option Addr) (c0_0 : Nat) (l0_0 : List S67) (a1 : ByteArray) (r : Int) (w : World) (hr0_0 : Kd.C k67 w A0_0 l0_0.length l0_0) (hc0_0 : l0_0.length ≤ c0_0) (h : impl_fileAt.f l0_0 a1 = some r) :
    Calls Try.prog 39 #[.agg #[.slice A0_0 l0_0.length c0_0], .string a1] w fun e w' => e = .returned (.int .i64 r) ∧ Below w.heap.size w w' := by
  obtain rfl := Option.some.inj h
  have HR0 := Aside0.mk hr0_0
  have HC0 := Aside0.mk hc0_0
  clear hr0_0 hc0_0 h
  have HB := Aside0.mk (Below.refl w.heap.size w)
  go_enter Try.func39, Try.ntmps39
  go_wp2_with (first | ((with_reducible refine gate_dst (N := 2) rfl ?_); refine box_event ?hg (N := 2) ?hd (cs := #[.slice A0_0 l0_0.length c0_0]) (t := 30) ?hr ?_; (case hd => rfl); (case hg => rfl); (case hr => first | (go_simp; done) | (go_simp; rfl)); intro gb1 hg w1 hbox hb; have n0_ := Aside0.mk (below_step (by repeat (first | (with_reducible first | exact HB.out | apply below_alloc | apply pw_below_drewN | apply below_drew1) | exact HB.out)) hb); have n1_ := Aside0.mk hbox; have n2_ := Aside0.mk ((by rw [hg]; exact (below_size (by repeat (first | (with_reducible first | exact HB.out | apply below_alloc | apply pw_below_drewN | apply below_drew1) | exact HB.out)))) : w.heap.size ≤ gb1); clear HB; have HB := n0_; have BK1 := n1_; have hcz_0 : w1.cell? ⟨gb1, 0, none⟩ = some (.slice A0_0 l0_0.length c0_0) := (blk_cell BK1.out 0).trans rfl; clear hb hbox hg n0_ n1_ n2_) | ((with_reducible refine gate_dst (N := 3) rfl ?_); refine box_event ?hg (N := 3) ?hd (cs := #[.string a1]) (t := 9) ?hr ?_; (case hd => rfl); (case hg => rfl); (case hr => first | (go_simp; done) | (go_simp; rfl)); intro gb2 hg w2 hbox hb; have n0_ := Aside0.mk (below_step (by repeat (first | (with_reducible first | exact HB.out | apply below_alloc | apply pw_below_drewN | apply below_drew1) | exact HB.out)) hb); have n1_ := Aside0.mk hbox; have n2_ := Aside0.mk ((by rw [hg]; exact (below_size (by repeat (first | (with_reducible first | exact HB.out | apply below_alloc | apply pw_below_drewN | apply below_drew1) | exact HB.out)))) : w.heap.size ≤ gb2); clear HB; have HB := n0_; have HS := Aside0.mk (show w2.cell? ⟨gb2, 0, none⟩ = some (.string a1) from (blk_cell n1_.out 0).trans rfl); have hcz_1 : w2.cell? ⟨gb1, 0, none⟩ = some (.slice A0_0 l0_0.length c0_0) := (hb.cell (World.block_lt_of_cell? _ _ hcz_0)).trans hcz_0; clear hb hbox hg n0_ n1_ n2_ hcz_0) | ((with_reducible refine gate_callee (f := 66) rfl ?_); refine goesL_ (some 8) rfl rfl Try.func66 (by kernel_rfl) rfl #[.slice A0_0 l0_0.length c0_0, .func (.func 67) #[] #[.pointer (some ⟨gb2, 0, none⟩)]] rfl (by (try simp only [List.map_toArray, List.map_cons, List.map_nil]); first | done | rfl) ?_; (with_reducible refine (impl_fileAt_idx _ _ l0_0 a1 gb2 _ ?side1 ?side2 ?side3).mono ?_); (case side1 => repeat (first | exact Kd.C_below HR0.out HB.out | (with_reducible refine Kd.C_alloc ?_ _) | (with_reducible refine Kd.C_drewN ?_ _) | (with_reducible refine Kd.C_drew ?_))); (case side2 => exact HC0.out); (case side3 => exact HS.out); rintro e w4 ⟨rfl, hb⟩; refine ⟨_, rfl, ?_⟩; have n0_ := Aside0.mk (below_step (by repeat (first | (with_reducible first | exact HB.out | apply below_alloc | apply pw_below_drewN | apply below_drew1) | exact HB.out)) hb); clear HB; have HB := n0_; clear n0_ hb))
  go_ret
  exact ⟨rfl, by repeat (first | (with_reducible first | exact HB.out | apply below_alloc | apply pw_below_drewN | apply below_drew1) | exact HB.out)⟩


/-! ### impl_FileAt: function 12 -/
def impl_FileAt.f (l0_0 : List (S67)) (a1 : ByteArray) : Option (ByteArray × Bool) := (impl_fileAt.f l0_0 a1).bind fun t102 => (if t102 < 0 then (some ((⟨#[]⟩ : ByteArray), false)) else (if 0 ≤ t102 then (if t102 < (l0_0.length : Int) then (some ((rd_T67 l0_0 t102).f1, true)) else (none)) else (none)))
set_option maxHeartbeats 8000000 in
set_option maxRecDepth 100000 in
theorem impl_FileAt.calls (A0_0 : Option Addr) (c0_0 : Nat) (l0_0 : List (S67)) (a1 : ByteArray) (r1 : ByteArray) (r2 : Bool) (w : World) (hr0_0 : Kd.C k67 w A0_0 l0_0.length l0_0) (hc0_0 : l0_0.length ≤ c0_0) (h : impl_FileAt.f l0_0 a1 = some (r1, r2)) :
  Calls Try.prog 12 #[.agg #[.slice A0_0 l0_0.length c0_0], .string a1] w fun e w' => e = .returned (.tuple #[.string r1, .bool r2]) ∧ Below w.heap.size w w' := by
 have hu30 := Try.underlying30
 have HR0_0 := AM hr0_0
 have HC0_0 := AM hc0_0
 clear hr0_0 hc0_0
 have HB := AM (Below.refl w.heap.size w)
 have H : ((impl_fileAt.f l0_0 a1).bind fun t102 => (if t102 < 0 then (some ((⟨#[]⟩ : ByteArray), false)) else (if 0 ≤ t102 then (if t102 < (l0_0.length : Int) then (some ((rd_T67 l0_0 t102).f1, true)) else (none)) else (none)))) = some (r1, r2) := h
 clear h
 replace H := bm H
 obtain ⟨t102, A30, H⟩ := H
 replace H : (if t102 < 0 then (some ((⟨#[]⟩ : ByteArray), false)) else (if 0 ≤ t102 then (if t102 < (l0_0.length : Int) then (some ((rd_T67 l0_0 t102).f1, true)) else (none)) else (none))) = some (r1, r2) := H
 have A3 := AM A30
 clear A30
 by_cases c4 : t102 < 0
 ·rw [if_pos c4] at H
  have c4b0 : decide (t102 < 0) = true := decide_eq_true c4
  clear c4
  simp only [Option.some.injEq, Prod.mk.injEq] at H
  obtain ⟨rfl, rfl⟩ := H
  go_enter Try.func12, Try.ntmps12
  go_wp2_with (first | ((with_reducible refine gd 2 rfl ?_); refine bx (N := 2) (cs := #[.slice A0_0 l0_0.length c0_0]) (t := 30) ?_; intro gb101 hg w5 hbox hb; have BK101 := AM (hbox); have GW101 := AM (bs hg HB); have GE101 := AM (bs hg HB); replace HB := bq HB hb; clear hb hbox hg; have hcz6_0 := bv BK101 0 (.slice A0_0 l0_0.length c0_0); have hfz6_0 := bz BK101 0) | ((with_reducible refine gc 39 rfl ?_); refine gl 9 Try.func39 #[.agg #[.slice A0_0 l0_0.length c0_0], .string a1] ?_; (with_reducible refine (impl_fileAt.calls _ _ l0_0 a1 t102 _ ?side1 ?side2 A3.out).mono ?_); (case side1 => repeat (first | exact (Kd.C_below HR0_0.out HB.out) | (with_reducible first | refine cA ?_ _ | refine cN ?_ _ | refine cD ?_))); (case side2 => exact HC0_0.out); rintro e w7 ⟨rfl, hb⟩; refine ⟨_, rfl, ?_⟩; replace BK101 := bw BK101 hb; replace HB := AM (below_step (hS) hb); (try clear hb)))
  go_ret2
  exact ⟨er, hS⟩
 rw [if_neg c4] at H
 have c4b0 : decide (t102 < 0) = false := decide_eq_false c4
 clear c4
 by_cases c8 : 0 ≤ t102
 ·rw [if_pos c8] at H
  have c8b0 : decide (0 ≤ t102) = true := decide_eq_true c8
  clear c8
  by_cases c9 : t102 < (l0_0.length : Int)
  ·rw [if_pos c9] at H
   have c9b0 : decide (t102 < (l0_0.length : Int)) = true := decide_eq_true c9
   clear c9
   simp only [Option.some.injEq, Prod.mk.injEq] at H
   obtain ⟨rfl, rfl⟩ := H
   go_enter Try.func12, Try.ntmps12
   go_wp2_with (first | ((with_reducible refine gd 2 rfl ?_); refine bx (N := 2) (cs := #[.slice A0_0 l0_0.length c0_0]) (t := 30) ?_; intro gb101 hg w10 hbox hb; have BK101 := AM (hbox); have GW101 := AM (bs hg HB); have GE101 := AM (bs hg HB); replace HB := bq HB hb; clear hb hbox hg; have hcz11_0 := bv BK101 0 (.slice A0_0 l0_0.length c0_0); have hfz11_0 := bz BK101 0) | ((with_reducible refine gc 39 rfl ?_); refine gl 9 Try.func39 #[.agg #[.slice A0_0 l0_0.length c0_0], .string a1] ?_; (with_reducible refine (impl_fileAt.calls _ _ l0_0 a1 t102 _ ?side1 ?side2 A3.out).mono ?_); (case side1 => repeat (first | exact (Kd.C_below HR0_0.out HB.out) | (with_reducible first | refine cA ?_ _ | refine cN ?_ _ | refine cD ?_))); (case side2 => exact HC0_0.out); rintro e w12 ⟨rfl, hb⟩; refine ⟨_, rfl, ?_⟩; replace BK101 := bw BK101 hb; replace HB := AM (below_step (hS) hb); (try clear hb); have hcz13_0 := bv BK101 0 (.slice A0_0 l0_0.length c0_0); have hfz13_0 := bz BK101 0; have p103 : 0 ≤ (t102 : Int) := od; have q103 : t102 < (l0_0.length : Int) := od; obtain ⟨ad103, e103, hx103_0, hx103_1, hx103_2⟩ := at_T67 HR0_0.out t102 p103 q103; cases e103; replace hx103_0 := cl HB hx103_0; replace hx103_1 := cl HB hx103_1; replace hx103_2 := cl HB hx103_2; replace p103 := eq_true p103; replace q103 := eq_true q103))
   go_ret2
   exact ⟨er, hS⟩
  rw [if_neg c9] at H
  exact absurd H (by simp)
 rw [if_neg c8] at H
 exact absurd H (by simp)

/-! ### impl_within: function 57 -/
def impl_within.f (a0 : Int) (a1 : Int) (a2 : Int) : Option (Bool) := if a0 ≥ a1 then (some (decide (a0 ≤ a2))) else (some false)
set_option maxHeartbeats 8000000 in
set_option maxRecDepth 100000 in
theorem impl_within.calls (a0 : Int) (a1 : Int) (a2 : Int) (r : Bool) (w : World) (h : impl_within.f a0 a1 a2 = some r) :
  Calls Try.prog 57 #[.int .i64 a0, .int .i64 a1, .int .i64 a2] w fun e w' => e = .returned (.bool r) ∧ Drawn0 w w' := by
 have H : (if a0 ≥ a1 then (some (decide (a0 ≤ a2))) else (some false)) = some r := h
 clear h
 by_cases c4 : a0 ≥ a1
 ·rw [if_pos c4] at H
  have c4b0 : decide (a1 ≤ a0) = true := decide_eq_true c4
  clear c4
  obtain rfl := Option.some.inj H
  go_enter Try.func57, Try.ntmps57
  go_wp2
  go_ret
  exact ⟨by first | rfl | (simp; done) | (simp [*]; done), by repeat (first | exact Drawn0.refl _ | apply Drawn0.step)⟩
 rw [if_neg c4] at H
 have c4b0 : decide (a1 ≤ a0) = false := decide_eq_false c4
 clear c4
 obtain rfl := Option.some.inj H
 go_enter Try.func57, Try.ntmps57
 go_wp2
 go_ret
 exact ⟨by first | rfl | (simp; done) | (simp [*]; done), by repeat (first | exact Drawn0.refl _ | apply Drawn0.step)⟩

/-! ### impl_DiskOk: function 42 -/
-- FRAGS: Files
/-! ### files -/
theorem rdF_nat {l : List S67} {i : Nat} (h : i < l.length) : rd_T67 l (i : Int) = l[i] := by
  unfold rd_T67
  rw [Int.toNat_natCast, List.getD_eq_getElem?_getD, List.getElem?_eq_getElem h]
  rfl
def fileOk (f : S67) : Bool := decide (1 ≤ (f.f0.size : Int) ∧ (f.f0.size : Int) ≤ 8) && decide (¬ (f.f1.size : Int) > 20000) && decide (0 ≤ f.f2 ∧ f.f2 ≤ (f.f1.size : Int))
def placeOk (l : List S67) (i : Nat) : Bool := fileOk (rd_T67 l (i : Int)) && (decide (i = 0) || Op.bytesLess ((rd_T67 l ((i - 1 : Nat) : Int)).f0.toList) ((rd_T67 l (i : Int)).f0.toList))
def allFrom (l : List S67) : Nat → Nat → Bool
  | 0, _ => true
  | d + 1, i => placeOk l i && allFrom l d (i + 1)
def diskOkV (l : List S67) : Bool := decide ((l.length : Int) ≤ 30) && allFrom l l.length 0

theorem wsuccJ {i : Nat} (h : i < 9223372036854775807) : wrap64 ((i : Int) + 1) = ((i + 1 : Nat) : Int) := by
  unfold wrap64
  omega
theorem quiet_drawn {P : Program} {f : FuncId} {args : Array Value} {w : World} {n : Nat} {v : Value} (h : Calls P f args (w.drewN n) fun e w' => e = .returned v ∧ Drawn0 (w.drewN n) w') : Calls P f args (w.drewN n) fun e w'' => e = .returned v ∧ ∃ m, w'' = w.drewN m := by
  refine h.mono ?_
  rintro e w' ⟨he, ⟨m, rfl⟩⟩
  exact ⟨he, n + m, World.drewN_drewN ..⟩
theorem blk_store_event {P : Program} {ops : Array Oper} {rest : List Oper} {o : Oper} {a : Act} {Q : Exit → Act → World → Prop} {W : World} (hgd : o.guard = none) (hN : o.dst = none) (t : TypeId) (p x : Operand) (ho : o.op = .store t p x) (g off : Nat) (hp : a.eval p = .pointer (some ⟨g, off, none⟩)) (u : Value) (hx : a.eval x = u)
    (cur : Array Value) (tt : TypeId) (hg : W.heap[g]? = some (.cells cur tt (0, 0))) (seg : List Value) (hu : u.cells.toList = seg) (ht : (P.info? t).map (·.size) = some seg.length) (hfit : off + seg.length ≤ cur.size) (h1 : ∀ q ∈ seg, q.oneCell' = true) (cur' : Array Value) (hc : (cur.toList.take off ++ seg ++ cur.toList.drop (off + seg.length)).toArray = cur')
    (h : ∀ w1, w1.heap[g]? = some (.cells cur' tt (0, 0)) → W.grownBy w1 (some g) → wpList P ops Q rest a w1) : wpList P ops Q (o :: rest) a W := by
  subst hc
  have hst := run_storeCells_at P g off tt seg 0 cur W hg (by simpa using hfit) h1
  simp only [Nat.add_zero] at hst
  have hrun : (Instr.storeAt t (.pointer (some ⟨g, off, none⟩)) u).run P W = .ok () (W.setRow g (cur.toList.take off ++ seg ++ cur.toList.drop (off + seg.length)).toArray) := by
    obtain ⟨i, hi, hsz⟩ := Option.map_eq_some_iff.1 ht
    have hcs : u.cells.size = i.size := by rw [hsz, ← hu, Array.length_toList]
    simp [Instr.storeAt, Instr.sureAddr, storeVar, sizeOf, typeInfo, hi, hcs, hu, hst]
  refine wpList_plain hgd fun K hK => ?_
  unfold Oper.wp execOp
  simp only [ho, hp, hx, Sem.run_bind, Sem.run_pure, Result.andThen_ok, hrun]
  show K (a.put o.dst undef) _
  rw [hN]
  exact hK a _ (h _ (setRow_heap W g cur _ tt _ hg) ⟨rfl, rfl, rfl, by simp, fun k _ hk => setRow_other W g k _ (fun e => hk (by rw [e]))⟩)
theorem within_dec (a l h : Int) : impl_within.f a l h = some (decide (l ≤ a ∧ a ≤ h)) := by
  unfold impl_within.f
  by_cases h1 : l ≤ a
  · rw [if_pos h1]; simp [h1]
  rw [if_neg h1]; simp [h1]
def impl_DiskOk.f (k : Nat) (l0_0 : List S67) : Option Bool := some (diskOkV l0_0)
theorem impl_DiskOk.mono : ∀ a0 k, LeO (impl_DiskOk.f k a0) (impl_DiskOk.f (k + 1) a0) := fun _ _ => LeO.refl _
set_option maxHeartbeats 8000000 in
set_option maxRecDepth 100000 in
theorem impl_DiskOk.calls (k : Nat) (A0_0 : Option Addr) (c0_0 : Nat) (l0_0 : List S67) (r : Bool) (w : World) (hr0_0 : Kd.C k67 w A0_0 l0_0.length l0_0) (hc0_0 : l0_0.length ≤ c0_0) (h : impl_DiskOk.f k l0_0 = some r) :
    Calls Try.prog 42 #[.agg #[.slice A0_0 l0_0.length c0_0]] w fun e w' => e = .returned (.bool r) ∧ Below w.heap.size w w' := by
  have HRV := AM (Option.some.inj h)
  have hu30 := Try.underlying30
  have hu67 := Try.underlying67
  have HR0 := AM hr0_0
  have HC0 := AM hc0_0
  have hmx : l0_0.length ≤ 9223372036854775807 := hr0_0.2.1
  clear hr0_0 hc0_0 h
  have HB := AM (Below.refl w.heap.size w)
  have HV1 : Aside0 (allFrom l0_0 l0_0.length 0 = true → r = decide ((l0_0.length : Int) ≤ 30)) := ⟨fun e => by rw [← HRV.out, diskOkV, e, Bool.and_true]⟩
  have HV2 : Aside0 (allFrom l0_0 l0_0.length 0 = false → r = false) := ⟨fun e => by rw [← HRV.out, diskOkV, e, Bool.and_false]⟩
  clear HRV
  go_enter Try.func42, Try.ntmps42
  go_wp2_with (first | ((with_reducible refine gd 1 rfl ?_); refine bx (N := 1) (cs := #[.slice A0_0 l0_0.length c0_0]) (t := 30) ?_; intro gb1 hg w1 hbox hb; have BK1 := AM hbox; have GE1 := AM (bs hg HB); replace HB := bq HB hb; clear hb hbox hg; have hcz1_0 := bv BK1 0 (.slice A0_0 l0_0.length c0_0)))
  go_loopg [8] l0_0.length (fun kq v8 w' => ∃ i : Nat, v8 = .int .i64 (i : Int) ∧ Aside0 (i ≤ l0_0.length) ∧ Aside0 (kq = l0_0.length - i) ∧ Aside0 (allFrom l0_0 (l0_0.length - i) i = allFrom l0_0 l0_0.length 0) ∧ Aside0 (w'.heap[gb1]? = some (.cells #[.slice A0_0 l0_0.length c0_0] 30 (0, 0))) ∧ Aside0 (Below w.heap.size w w'))
  case atStart => exact ⟨0, by first | rfl | simp, ⟨Nat.zero_le _⟩, ⟨rfl⟩, ⟨rfl⟩, BK1, ⟨hB HB⟩⟩
  clear HB hcz1_0 BK1
  obtain ⟨i, rfl, HI, HKQ, HA, BK1, HB⟩ := hrel
  have hcz1_0 := bv BK1 0 (.slice A0_0 l0_0.length c0_0)
  by_cases ci : i < l0_0.length
  · have cib : decide ((i : Int) < (l0_0.length : Int)) = true := decide_eq_true (by omega)
    have cib2 : decide (i < l0_0.length) = true := decide_eq_true ci
    have p1 : 0 ≤ (i : Int) := by omega
    have q1 : (i : Int) < (l0_0.length : Int) := by omega
    obtain ⟨x, hx⟩ : ∃ x, x = rd_T67 l0_0 (i : Int) := ⟨_, rfl⟩
    have HP : Aside0 (allFrom l0_0 (l0_0.length - i) i = (placeOk l0_0 i && allFrom l0_0 (l0_0.length - (i + 1)) (i + 1))) := ⟨by rw [show l0_0.length - i = (l0_0.length - (i + 1)) + 1 by omega, allFrom]⟩
    obtain ⟨ad1, e1, hx0, hx1, hx2⟩ := at_T67 HR0.out (i : Int) p1 q1
    cases e1
    rw [← hx] at hx0 hx1 hx2
    rw [Int.toNat_natCast] at hx0 hx1 hx2
    have HX0 := AM hx0
    have HX1 := AM hx1
    have HX2 := AM hx2
    clear hx0 hx1 hx2
    have hxx0 := cl HB HX0.out
    have hxx1 := cl HB HX1.out
    have hxx2 := cl HB HX2.out
    have HXE := AM hx
    have WI := AM (wsuccJ (i := i) (by omega))
    have HI2 := AM ci
    have hib : (i : Int) ≤ 9223372036854775806 := by omega
    replace p1 := eq_true p1
    replace q1 := eq_true q1
    clear hx
    go_upto_region 4 with (first | ((with_reducible refine gd 4 rfl ?_); refine bx (N := 4) (cs := #[.string (⟨#[]⟩ : ByteArray), .string (⟨#[]⟩ : ByteArray), .int .i64 0]) (t := 67) ?_; intro gb4 hg w4 hbox hb; have n0_ := bq HB hb; have n1_ := AM hbox; have n2_ := AM (bs hg HB); replace BK1 := bw BK1 hb; clear hcz1_0 hxx0 hxx1 hxx2; clear HB; have HB := n0_; have BK4 := n1_; have GE4 := n2_; clear hb hbox hg n0_ n1_ n2_; have hcz1_0 := bv BK1 0 (.slice (some ad1) l0_0.length c0_0); have hxx0 := cl HB HX0.out; have hxx1 := cl HB HX1.out; have hxx2 := cl HB HX2.out) | ((with_reducible refine gate_ (.store 67 (.tmp 4) (.tmp 12)) rfl ?_); refine blk_store_event rfl rfl 67 (.tmp 4) (.tmp 12) rfl gb4 0 (by rfl) (.agg #[.string x.f0, .string x.f1, .int .i64 x.f2]) (by rfl) #[.string (⟨#[]⟩ : ByteArray), .string (⟨#[]⟩ : ByteArray), .int .i64 0] 67 BK4.out [.string x.f0, .string x.f1, .int .i64 x.f2] rfl (by kernel_rfl) (show 0 + 3 ≤ 3 by decide) (by intro q hq; simp at hq; rcases hq with rfl | rfl | rfl <;> rfl) #[.string x.f0, .string x.f1, .int .i64 x.f2] rfl ?_; intro w5 hbox hg; clear hcz1_0 hxx0 hxx1 hxx2; have n0_ := AM (HB.out.grown hg (below_size (hB HB)) (fun k hk => by injection hk with hk; have := GE4.out; omega)); have n1_ := AM (blk_grown BK1.out hg (fun e => blk_ne BK1.out BK4.out (by decide) (Option.some.inj e))); clear HB BK1 BK4; have HB := n0_; have BK1 := n1_; have BK4 := AM hbox; clear hg hbox n0_ n1_; have hcz1_0 := bv BK1 0 (.slice (some ad1) l0_0.length c0_0); have hcz4_0 := bv BK4 0 (.string x.f0); have hcz4_1 := bv BK4 1 (.string x.f1); have hcz4_2 := bv BK4 2 (.int .i64 x.f2)))
    have bad : placeOk l0_0 i = false → r = false := fun e => by have h_ := HP.out; rw [e, Bool.false_and] at h_; exact HV2.out (HA.out.symm.trans h_)
    have good : placeOk l0_0 i = true → allFrom l0_0 (l0_0.length - (i + 1)) (i + 1) = allFrom l0_0 l0_0.length 0 := fun e => by have h_ := HP.out; rw [e, Bool.true_and] at h_; exact h_.symm.trans HA.out
    have HBD := AM bad
    have HGD := AM good
    clear bad good
    have hpl : placeOk l0_0 i = (decide (1 ≤ (x.f0.size : Int) ∧ (x.f0.size : Int) ≤ 8) && decide (¬ (x.f1.size : Int) > 20000) && decide (0 ≤ x.f2 ∧ x.f2 ≤ (x.f1.size : Int)) && (decide (i = 0) || Op.bytesLess ((rd_T67 l0_0 ((i - 1 : Nat) : Int)).f0.toList) (x.f0.toList))) := by unfold placeOk fileOk; rw [← HXE.out]
    by_cases c1 : 1 ≤ (x.f0.size : Int) ∧ (x.f0.size : Int) ≤ 8
    case neg =>
      have HW1 := AM (show impl_within.f (x.f0.size : Int) 1 8 = some false from by rw [within_dec, decide_eq_false c1])
      have HV0 := AM (HBD.out (by rw [hpl, decide_eq_false c1]; simp only [Bool.false_and]))
      clear hpl c1
      go_quiet (first | (go_at_call 57; exact quiet_drawn (impl_within.calls _ _ _ _ _ HW1.out)) | (go_at_call 57; exact quiet_drawn (impl_within.calls _ _ _ _ _ HW2.out)))
      go_wp2
      go_ret
      exact ⟨by rw [HV0.out]; first | done | rfl, hB HB⟩
    have HW1 := AM (show impl_within.f (x.f0.size : Int) 1 8 = some true from by rw [within_dec, decide_eq_true c1])
    by_cases c2 : (x.f1.size : Int) > 20000
    · have HV0 := AM (HBD.out (by rw [hpl, decide_eq_false (not_not_intro c2)]; simp only [Bool.false_and, Bool.and_false]))
      have c2b0 : decide (20000 < (x.f1.size : Int)) = true := decide_eq_true c2
      have c2b1 : decide (20000 < x.f1.size) = true := decide_eq_true (by omega)
      clear hpl c1 c2
      go_quiet (first | (go_at_call 57; exact quiet_drawn (impl_within.calls _ _ _ _ _ HW1.out)) | (go_at_call 57; exact quiet_drawn (impl_within.calls _ _ _ _ _ HW2.out)))
      go_wp2
      go_ret
      exact ⟨by rw [HV0.out]; first | done | rfl, hB HB⟩
    have c2b0 : decide (20000 < (x.f1.size : Int)) = false := decide_eq_false c2
    have c2b1 : decide (20000 < x.f1.size) = false := decide_eq_false (by omega)
    by_cases c3 : 0 ≤ x.f2 ∧ x.f2 ≤ (x.f1.size : Int)
    case neg =>
      have HW2 := AM (show impl_within.f x.f2 0 (x.f1.size : Int) = some false from by rw [within_dec, decide_eq_false c3])
      have HV0 := AM (HBD.out (by rw [hpl, decide_eq_false c3]; simp only [Bool.false_and, Bool.and_false]))
      clear hpl c1 c2 c3
      go_quiet (first | (go_at_call 57; exact quiet_drawn (impl_within.calls _ _ _ _ _ HW1.out)) | (go_at_call 57; exact quiet_drawn (impl_within.calls _ _ _ _ _ HW2.out)))
      go_wp2
      go_ret
      exact ⟨by rw [HV0.out]; first | done | rfl, hB HB⟩
    have HW2 := AM (show impl_within.f x.f2 0 (x.f1.size : Int) = some true from by rw [within_dec, decide_eq_true c3])
    by_cases c4 : i = 0
    · have HA1 := AM (HGD.out (by rw [hpl, decide_eq_true c1, decide_eq_true c2, decide_eq_true c3, decide_eq_true c4]; rfl))
      have c4b0 : decide (0 < (i : Int)) = false := decide_eq_false (by omega)
      have c4b1 : decide (0 < i) = false := decide_eq_false (by omega)
      clear hpl c1 c2 c3 c4
      go_quiet (first | (go_at_call 57; exact quiet_drawn (impl_within.calls _ _ _ _ _ HW1.out)) | (go_at_call 57; exact quiet_drawn (impl_within.calls _ _ _ _ _ HW2.out)))
      go_wp2
      go_roundg (l0_0.length - (i + 1))
      case measure => have := HKQ.out; omega
      case rel => exact ⟨i + 1, by first | rfl | (rw [WI.out]), ⟨by have := HI2.out; omega⟩, ⟨rfl⟩, HA1, ⟨bk BK1⟩, ⟨hB HB⟩⟩
    have c4b0 : decide (0 < (i : Int)) = true := decide_eq_true (by omega)
    have c4b1 : decide (0 < i) = true := decide_eq_true (by omega)
    obtain ⟨m, hm⟩ : ∃ m : Nat, m = i - 1 := ⟨_, rfl⟩
    obtain ⟨y, hy⟩ : ∃ y, y = rd_T67 l0_0 (m : Int) := ⟨_, rfl⟩
    rw [← hm, ← hy, decide_eq_true c1, decide_eq_true c2, decide_eq_true c3, decide_eq_false c4, Bool.true_and, Bool.true_and, Bool.true_and, Bool.false_or] at hpl
    have hj1 : (i : Int) - 1 = (m : Int) := by omega
    have hj2 : IntKind.i64.wrap ((i : Int) - 1) = (m : Int) := by rw [IntKind.wrap_i64]; omega
    have p2 := eq_true (show 0 ≤ (m : Int) by omega)
    have q2 := eq_true (show (m : Int) < (l0_0.length : Int) by omega)
    have p3 := eq_true (show 1 ≤ (i : Int) by omega)
    obtain ⟨ad2, e2, hy0, hy1, hy2⟩ := at_T67 HR0.out (m : Int) (by omega) (by omega)
    cases e2
    rw [← hy] at hy0
    rw [Int.toNat_natCast] at hy0
    have hyy0 := cl HB hy0
    by_cases c5 : Op.bytesLess y.f0.toList x.f0.toList = true
    · have HA1 := AM (HGD.out (hpl.trans c5))
      clear hpl c1 c2 c3 c4 hm hy hy0 hy1 hy2
      go_quiet (first | (go_at_call 57; exact quiet_drawn (impl_within.calls _ _ _ _ _ HW1.out)) | (go_at_call 57; exact quiet_drawn (impl_within.calls _ _ _ _ _ HW2.out)))
      go_wp2
      go_roundg (l0_0.length - (i + 1))
      case measure => have := HKQ.out; omega
      case rel => exact ⟨i + 1, by first | rfl | (rw [WI.out]), ⟨by have := HI2.out; omega⟩, ⟨rfl⟩, HA1, ⟨bk BK1⟩, ⟨hB HB⟩⟩
    have c5b0 : Op.bytesLess y.f0.toList x.f0.toList = false := by simpa using c5
    have HV0 := AM (HBD.out (hpl.trans c5b0))
    clear hpl c1 c2 c3 c4 hm hy hy0 hy1 hy2 c5
    go_quiet (first | (go_at_call 57; exact quiet_drawn (impl_within.calls _ _ _ _ _ HW1.out)) | (go_at_call 57; exact quiet_drawn (impl_within.calls _ _ _ _ _ HW2.out)))
    go_wp2
    go_ret
    exact ⟨by rw [HV0.out]; first | done | rfl, hB HB⟩
  have cib : decide ((i : Int) < (l0_0.length : Int)) = false := decide_eq_false (by omega)
  have cib2 : decide (i < l0_0.length) = false := decide_eq_false ci
  have HV0 := AM (HV1.out (by have h_ := HA.out; have h2_ := HI.out; rw [show l0_0.length - i = 0 by omega] at h_; exact h_.symm))
  go_wp2
  go_ret
  exact ⟨by rw [HV0.out]; first | done | rfl | (congr 2; rw [Bool.eq_iff_iff]; simp), hB HB⟩


/-! ### impl_copyDisk: function 48 -/
def impl_copyDisk.f (l0_0 : List S67) : Option (List S67) := if l0_0.length ≤ 1099511627776 then some l0_0 else none
set_option maxHeartbeats 8000000 in
set_option maxRecDepth 100000 in
theorem impl_copyDisk.calls (A0_0 : Option Addr) (c0_0 : Nat) (l0_0 : List S67) (r : List S67) (w : World) (hr0_0 : Kd.C k67 w A0_0 l0_0.length l0_0) (hc0_0 : l0_0.length ≤ c0_0) (h : impl_copyDisk.f l0_0 = some r) :
    Calls Try.prog 48 #[.agg #[.slice A0_0 l0_0.length c0_0]] w fun e w' => ∃ v0_ : Value, e = .returned (.agg #[v0_]) ∧ Kd.R k67 67 w' w.heap.size (fun _ => True) v0_ r ∧ Below w.heap.size w w' := by
  unfold impl_copyDisk.f at h
  by_cases hl : l0_0.length ≤ 1099511627776
  case neg =>
    rw [if_neg hl] at h
    exact absurd h (by simp)
  rw [if_pos hl] at h
  obtain rfl := Option.some.inj h
  have hu30 := Try.underlying30
  have HR0 := Aside0.mk hr0_0
  have HC0 := Aside0.mk hc0_0
  clear hr0_0 hc0_0 h
  have HB := Aside0.mk (Below.refl w.heap.size w)
  go_enter Try.func48, Try.ntmps48
  go_wp2_with (first | ((with_reducible refine gate_dst (N := 1) rfl ?_); refine box_event ?hg (N := 1) ?hd (cs := #[.slice A0_0 l0_0.length c0_0]) (t := 30) ?hr ?_; (case hd => rfl); (case hg => rfl); (case hr => first | (go_simp; done) | (go_simp; rfl)); intro gb1 hg w1 hbox hb; have n0_ := Aside0.mk (below_step (by repeat (first | (with_reducible first | exact HB.out | apply below_alloc | apply pw_below_drewN | apply below_drew1) | exact HB.out)) hb); have n1_ := Aside0.mk hbox; have n2_ := Aside0.mk ((by rw [hg]; exact (below_size (by repeat (first | (with_reducible first | exact HB.out | apply below_alloc | apply pw_below_drewN | apply below_drew1) | exact HB.out)))) : w.heap.size ≤ gb1); clear HB; have HB := n0_; have BK1 := n1_; have GE1 := n2_; have hcz_0 : w1.cell? ⟨gb1, 0, none⟩ = some (.slice A0_0 l0_0.length c0_0) := (blk_cell BK1.out 0).trans rfl; clear hb hbox hg n0_ n1_ n2_) | ((with_reducible refine gate_dst (N := 2) rfl ?_); refine box_event ?hg (N := 2) ?hd (cs := #[.slice none 0 0]) (t := 30) ?hr ?_; (case hd => rfl); (case hg => rfl); (case hr => first | (go_simp; done) | (go_simp; rfl)); intro gb2 hg w2 hbox hb; have n0_ := Aside0.mk (below_step (by repeat (first | (with_reducible first | exact HB.out | apply below_alloc | apply pw_below_drewN | apply below_drew1) | exact HB.out)) hb); have n1_ := Aside0.mk hbox; have n2_ := Aside0.mk ((by rw [hg]; exact (below_size (by repeat (first | (with_reducible first | exact HB.out | apply below_alloc | apply pw_below_drewN | apply below_drew1) | exact HB.out)))) : w.heap.size ≤ gb2); clear HB; have HB := n0_; have BK2 := n1_; have GE2 := n2_; have hcz_1 : w2.cell? ⟨gb1, 0, none⟩ = some (.slice A0_0 l0_0.length c0_0) := (hb.cell (World.block_lt_of_cell? _ _ hcz_0)).trans hcz_0; clear hb hbox hg n0_ n1_ n2_ hcz_0) | ((with_reducible refine gate_builtin (b := .append) (xs := #[.const (.slice none 0 0), .tmp 4]) rfl ?_); (try (refine gate_guard (by rfl) ?_; dsimp only)); at_builtin; refine Kd.R_append_rows k67 (w0 := w) w.heap.size rfl (.const (.slice none 0 0)) (.tmp 4) 28 67 (.agg #[(.string ⟨#[]⟩), (.string ⟨#[]⟩), (.int .i64 0)]) 40 rfl Try.underlying28 info67 rfl (by decide) (by omega) (.slice none 0 0) [] l0_0 _ _ _ (fun _ => True) (fun _ => False) rfl rfl (Kd.R_nil _ _ _ _ _) ?aR (fun _ _ h => h) (fun _ h => h.elim) (fun _ _ => trivial) ?aB ?aS ?aL ?_; (case aR => repeat (first | exact (Kd.C_below HR0.out HB.out) | (with_reducible refine Kd.C_alloc ?_ _) | (with_reducible refine Kd.C_drewN ?_ _) | (with_reducible refine Kd.C_drew ?_))); (case aB => exact (by repeat (first | (with_reducible first | exact HB.out | apply below_alloc | apply pw_below_drewN | apply below_drew1) | exact HB.out))); (case aS => exact (below_size (by repeat (first | (with_reducible first | exact HB.out | apply below_alloc | apply pw_below_drewN | apply below_drew1) | exact HB.out)))); (case aL => simp only [List.length_nil]; omega); intro v5 w5 ho hb hg hat; rw [List.nil_append] at ho; obtain ⟨Ao, co, rfl⟩ := Kd.R_slice ho; have HO := Aside0.mk ho; have BK3 := Aside0.mk (blk_grown (g := gb2) (o := .cells #[.slice none 0 0] 30 (0, 0)) (by (with_reducible repeat (first | refine blk_drewN ?_ _ | refine blk_drew ?_ | refine blk_alloc ?_ _)); exact BK2.out) hg (by simp [Value.ownBlock])); clear HB; have HB := Aside0.mk hb; clear BK2; have BK2 := BK3; clear BK3 hb hg hat ho; have hcz_2 : w5.cell? ⟨gb2, 0, none⟩ = some (.slice none 0 0) := (blk_cell BK2.out 0).trans rfl; have hfz_2 := blk_frozen BK2.out 0))
  refine bodyPost_ret (results_cell_row rfl _ _ gb2 30 #[.slice Ao l0_0.length co] (0, 0) _ rfl (by (with_reducible repeat (first | refine blk_drewN ?_ _ | refine blk_drew ?_ | refine blk_alloc ?_ _)); refine blk_put (cs := #[.slice none 0 0]) ?_ 0 _ rfl; (with_reducible repeat (first | refine blk_drewN ?_ _ | refine blk_drew ?_ | refine blk_alloc ?_ _)); exact BK2.out) Try.underlying30 rfl (by kernel_rfl)) rfl ?_
  exact ⟨_, by first | rfl | (simp; done) | (simp; rfl), by (with_reducible repeat (first | apply Kd.R_alloc | apply Kd.R_drewN | apply Kd.R_drew)); exact Kd.R_mono (Kd.R_far (p := ⟨gb2, 0, none⟩) (Kd.R_types HO.out BK2.out (by decide)) (fun _ hk => hk.2) (.slice Ao l0_0.length co)) (fun _ hk => trivial), by repeat (first | (with_reducible first | exact HB.out | apply below_alloc | apply pw_below_drewN | apply below_drew1 | refine below_set ?_ GE2.out) | exact HB.out)⟩


/-! ### impl_File_80: function 80 -/
/-! not wanted here -/


/-! ### impl_File_85: function 85 -/
/-! not wanted here -/


/-! ### impl_File_84: function 84 -/
/-! not wanted here -/


/-! ### impl_File_81: function 81 -/
/-! not wanted here -/


/-! ### impl_File_70: function 70 -/
/-! not wanted here -/


end Go.Proofs.Ytnkldnkolcighaa.XFnActs
