/- What the functions of a law compute, and that their calls compute it: written by a program of this session (xprint.py), which turns the kit print at a few places. -/
import Derived.Test.YtnkldnkolcighaaXFnExactCutActsx0
namespace Go.Proofs.Ytnkldnkolcighaa.XFnExactCutActs
open Go.RowKit Go.Proofs.YtnkldnkolcighaaT.PrintWords Go.Proofs.YtnkldnkolcighaaT.PrintLast Go.Proofs.YtnkldnkolcighaaT.PrintMore
attribute [local go_sem] max2_int min2_int max_two min_two max_three min_three max_four min_four str_geq str_gtr   -- for this text's walks alone
set_option linter.unusedVariables false
set_option linter.unusedSimpArgs false

/-! ### spec_l03At: function 37 -/
def spec_l03At.l0 : Nat → ByteArray → Int → List (S67) → Option (Int)
 | 0, _, _, _ => none
 | k + 1, x1, x5, x177000 => if x5 < (x177000.length : Int) then (if 0 ≤ x5 then (if ((rd_T67 x177000 x5).f0).toList = x1.toList then (some x5) else (spec_l03At.l0 k x1 (wrap64 (x5 + 1)) x177000)) else (none)) else (some (-1))
def spec_l03At.f (k : Nat) (l0_0 : List (S67)) (a1 : ByteArray) : Option (Int) := spec_l03At.l0 k a1 0 l0_0
theorem spec_l03At.mono_l : ∀ k, (∀ y0 y1 y2, LeO (spec_l03At.l0 k y0 y1 y2) (spec_l03At.l0 (k + 1) y0 y1 y2))
 | 0 => fun _ _ _ r h => by simp [spec_l03At.l0] at h
 | k + 1 => by
  have ih0 := spec_l03At.mono_l k
  intro y0 y1 y2
  unfold spec_l03At.l0
  repeat' first
  | (with_reducible exact LeO.refl _)
  | (with_reducible refine LeO.ite ?_ ?_)
  | (with_reducible refine LeO.bind ?_ (fun _ => ?_))
  | exact ih0 _ _ _
  | exact LeO.none _
  | refine LeO.ite ?_ ?_
  | refine LeO.bind ?_ (fun _ => ?_)
theorem spec_l03At.mono : ∀ a0 a1 k, LeO (spec_l03At.f k a0 a1) (spec_l03At.f (k + 1) a0 a1) := by
 intro a0 a1 k
 have ih0 := spec_l03At.mono_l k
 unfold spec_l03At.f
 repeat' first
   | (with_reducible exact LeO.refl _)
   | (with_reducible refine LeO.ite ?_ ?_)
   | (with_reducible refine LeO.bind ?_ (fun _ => ?_))
   | exact ih0 _ _ _
   | exact LeO.none _
   | refine LeO.ite ?_ ?_
   | refine LeO.bind ?_ (fun _ => ?_)
set_option maxHeartbeats 8000000 in
set_option maxRecDepth 100000 in
theorem spec_l03At.calls (k : Nat) (A0_0 : Option Addr) (c0_0 : Nat) (l0_0 : List (S67)) (a1 : ByteArray) (r : Int) (w : World) (hr0_0 : Kd.C k67 w A0_0 l0_0.length l0_0) (hc0_0 : l0_0.length ≤ c0_0) (h : spec_l03At.f k l0_0 a1 = some r) :
  Calls Try.prog 37 #[.agg #[.slice A0_0 l0_0.length c0_0], .string a1] w fun e w' => e = .returned (.int .i64 r) ∧ Below w.heap.size w w' := by
 have hu30 := Try.underlying30
 have HR0_0 := AM hr0_0
 have HC0_0 := AM hc0_0
 clear hr0_0 hc0_0
 have HB := AM (Below.refl w.heap.size w)
 have H : (spec_l03At.l0 k a1 0 l0_0) = some r := h
 clear h
 have H' := AM H
 clear H
 go_enter Try.func37, Try.ntmps37
 go_wp2_with (first | ((with_reducible refine gd 2 rfl ?_); refine bx (N := 2) (cs := #[.slice A0_0 l0_0.length c0_0]) (t := 30) ?_; intro gb176 hg w3 hbox hb; have BK176 := AM (hbox); have GW176 := AM (bs hg HB); have GE176 := AM (bs hg HB); replace HB := bq HB hb; clear hb hbox hg))
 go_loopg [5] k (fun kq v5 w' => ∃ (x5_1 : Int), v5 = .int .i64 x5_1 ∧ Aside0 (spec_l03At.l0 kq a1 x5_1 l0_0 = some r) ∧ Aside0 (kq ≤ k) ∧ Aside0 (w'.heap[gb176]? = some (.cells #[(.slice A0_0 l0_0.length c0_0)] 30 (0, 0))) ∧ Aside0 (Below w.heap.size w w'))
 case atStart => exact ⟨(0), sf, H', ⟨Nat.le_refl _⟩, ⟨bk BK176⟩, ⟨hS⟩⟩
 clear H'
 obtain ⟨x5_1, rfl, HA, HK1, BK176, HB⟩ := hrel
 cases gk with
 | zero => exact absurd HA.out (by simp [spec_l03At.l0])
 | succ k1 =>
  have H := HA.out
  clear HA
  simp only [spec_l03At.l0] at H
  by_cases c4 : x5_1 < (l0_0.length : Int)
  ·rw [if_pos c4] at H
   have c4b0 : decide (x5_1 < (l0_0.length : Int)) = true := decide_eq_true c4
   clear c4
   by_cases c5 : 0 ≤ x5_1
   ·rw [if_pos c5] at H
    have c5b0 : decide (0 ≤ x5_1) = true := decide_eq_true c5
    clear c5
    by_cases c6 : ((rd_T67 l0_0 x5_1).f0).toList = a1.toList
    ·rw [if_pos c6] at H
     have c6b0 : (((rd_T67 l0_0 x5_1).f0).toList == a1.toList) = true := beq_iff_eq.mpr c6
     have c6b1 : (((rd_T67 l0_0 x5_1).f0).toList != a1.toList) = false := bne_eq_false_iff_eq.mpr c6
     clear c6
     obtain rfl := Option.some.inj H
     have hcz7_0 := bv BK176 0 (.slice A0_0 l0_0.length c0_0)
     have hfz7_0 := bz BK176 0
     have p177 : 0 ≤ (x5_1 : Int) := od
     have q177 : x5_1 < (l0_0.length : Int) := od
     obtain ⟨ad177, e177, hx177_0, hx177_1, hx177_2⟩ := at_T67 HR0_0.out x5_1 p177 q177
     cases e177
     replace hx177_0 := cl HB hx177_0
     replace hx177_1 := cl HB hx177_1
     replace hx177_2 := cl HB hx177_2
     replace p177 := eq_true p177
     replace q177 := eq_true q177
     go_wp2
     go_ret
     exact ⟨er, hS⟩
    rw [if_neg c6] at H
    have c6b0 : (((rd_T67 l0_0 x5_1).f0).toList == a1.toList) = false := beq_eq_false_iff_ne.mpr c6
    have c6b1 : (((rd_T67 l0_0 x5_1).f0).toList != a1.toList) = true := bne_iff_ne.mpr c6
    have H' := AM H
    clear H
    have hcz8_0 := bv BK176 0 (.slice A0_0 l0_0.length c0_0)
    have hfz8_0 := bz BK176 0
    have p177 : 0 ≤ (x5_1 : Int) := od
    have q177 : x5_1 < (l0_0.length : Int) := od
    obtain ⟨ad177, e177, hx177_0, hx177_1, hx177_2⟩ := at_T67 HR0_0.out x5_1 p177 q177
    cases e177
    replace hx177_0 := cl HB hx177_0
    replace hx177_1 := cl HB hx177_1
    replace hx177_2 := cl HB hx177_2
    replace p177 := eq_true p177
    replace q177 := eq_true q177
    go_wp2
    go_roundg k1
    case measure => have := HK1.out; omega
    case rel => exact ⟨(wrap64 (x5_1 + 1)), sf, H', ⟨by have := HK1.out; omega⟩, ⟨bk BK176⟩, ⟨hS⟩⟩
   rw [if_neg c5] at H
   exact absurd H (by simp)
  rw [if_neg c4] at H
  have c4b0 : decide (x5_1 < (l0_0.length : Int)) = false := decide_eq_false c4
  clear c4
  obtain rfl := Option.some.inj H
  have hcz9_0 := bv BK176 0 (.slice A0_0 l0_0.length c0_0)
  have hfz9_0 := bz BK176 0
  go_wp2
  go_ret
  exact ⟨er, hS⟩

/-! ### spec_l01In: function 55 -/
def spec_l01In.f (a0 : Int) (a1 : Int) (a2 : Int) : Option (Bool) := if a0 ≥ a1 then (some (decide (a0 ≤ a2))) else (some false)
set_option maxHeartbeats 8000000 in
set_option maxRecDepth 100000 in
theorem spec_l01In.calls (a0 : Int) (a1 : Int) (a2 : Int) (r : Bool) (w : World) (h : spec_l01In.f a0 a1 a2 = some r) :
  Calls Try.prog 55 #[.int .i64 a0, .int .i64 a1, .int .i64 a2] w fun e w' => e = .returned (.bool r) ∧ Drawn0 w w' := by
 have H : (if a0 ≥ a1 then (some (decide (a0 ≤ a2))) else (some false)) = some r := h
 clear h
 by_cases c4 : a0 ≥ a1
 ·rw [if_pos c4] at H
  have c4b0 : decide (a1 ≤ a0) = true := decide_eq_true c4
  clear c4
  obtain rfl := Option.some.inj H
  go_enter Try.func55, Try.ntmps55
  go_wp2
  go_ret
  exact ⟨by first | rfl | (simp; done) | (simp [*]; done), by repeat (first | exact Drawn0.refl _ | apply Drawn0.step)⟩
 rw [if_neg c4] at H
 have c4b0 : decide (a1 ≤ a0) = false := decide_eq_false c4
 clear c4
 obtain rfl := Option.some.inj H
 go_enter Try.func55, Try.ntmps55
 go_wp2
 go_ret
 exact ⟨by first | rfl | (simp; done) | (simp [*]; done), by repeat (first | exact Drawn0.refl _ | apply Drawn0.step)⟩

/-! ### spec_l03Name: function 45 -/
def spec_l03Name.f (a0 : ByteArray) : Option (Bool) := (spec_l01In.f (a0.size : Int) 1 8).bind fun t178 => (some t178)
set_option maxHeartbeats 8000000 in
set_option maxRecDepth 100000 in
theorem spec_l03Name.calls (a0 : ByteArray) (r : Bool) (w : World) (h : spec_l03Name.f a0 = some r) :
  Calls Try.prog 45 #[.string a0] w fun e w' => e = .returned (.bool r) ∧ Drawn0 w w' := by
 have H : ((spec_l01In.f (a0.size : Int) 1 8).bind fun t178 => (some t178)) = some r := h
 clear h
 replace H := bm H
 obtain ⟨t178, A20, H⟩ := H
 replace H : (some t178) = some r := H
 have A2 := AM A20
 clear A20
 obtain rfl := Option.some.inj H
 go_enter Try.func45, Try.ntmps45
 go_wp2_with (first | ((with_reducible refine gc 55 rfl ?_); refine goesL_ (some 5) rfl rfl Try.func55 (by kernel_rfl) rfl #[.int .i64 (a0.size : Int), .int .i64 1, .int .i64 8] rfl am ?_; (with_reducible refine (spec_l01In.calls (a0.size : Int) 1 8 t178 _ A2.out).mono ?_); rintro e w' ⟨rfl, ⟨nd, rfl⟩⟩; refine ⟨_, rfl, ?_⟩))
 go_ret
 exact ⟨by first | rfl | (simp; done) | (simp [*]; done), by repeat (first | exact Drawn0.refl _ | apply Drawn0.step)⟩

/-! ### spec_DiskOk: function 41 -/
-- FRAGS: Files
/-! ### files -/
theorem rdF_nat {l : List S67} {i : Nat} (h : i < l.length) : rd_T67 l (i : Int) = l[i] := by
  unfold rd_T67
  rw [Int.toNat_natCast, List.getD_eq_getElem?_getD, List.getElem?_eq_getElem h]
  rfl
def fileOk (f : S67) : Bool := decide (1 ≤ (f.f0.size : Int) ∧ (f.f0.size : Int) ≤ 8) && decide (¬ (f.f1.size : Int) > 20000) && decide (0 ≤ f.f2 ∧ f.f2 ≤ (f.f1.size : Int))
def placeOk (l : List S67) (i : Nat) : Bool := fileOk (rd_T67 l (i : Int)) && (decide (i = 0) || Op.bytesLess ((rd_T67 l ((i - 1 : Nat) : Int)).f0.toList) ((rd_T67 l (i : Int)).f0.toList))
def allFrom (l : List S67) : Nat → Nat → Bool
  | 0, _ => true
  | d + 1, i => placeOk l i && allFrom l d (i + 1)
def diskOkV (l : List S67) : Bool := decide ((l.length : Int) ≤ 30) && allFrom l l.length 0

theorem wsuccJ {i : Nat} (h : i < 9223372036854775807) : wrap64 ((i : Int) + 1) = ((i + 1 : Nat) : Int) := by
  unfold wrap64
  omega
theorem quiet_drawn {P : Program} {f : FuncId} {args : Array Value} {w : World} {n : Nat} {v : Value} (h : Calls P f args (w.drewN n) fun e w' => e = .returned v ∧ Drawn0 (w.drewN n) w') : Calls P f args (w.drewN n) fun e w'' => e = .returned v ∧ ∃ m, w'' = w.drewN m := by
  refine h.mono ?_
  rintro e w' ⟨he, ⟨m, rfl⟩⟩
  exact ⟨he, n + m, World.drewN_drewN ..⟩
theorem blk_store_event {P : Program} {ops : Array Oper} {rest : List Oper} {o : Oper} {a : Act} {Q : Exit → Act → World → Prop} {W : World} (hgd : o.guard = none) (hN : o.dst = none) (t : TypeId) (p x : Operand) (ho : o.op = .store t p x) (g off : Nat) (hp : a.eval p = .pointer (some ⟨g, off, none⟩)) (u : Value) (hx : a.eval x = u)
    (cur : Array Value) (tt : TypeId) (hg : W.heap[g]? = some (.cells cur tt (0, 0))) (seg : List Value) (hu : u.cells.toList = seg) (ht : (P.info? t).map (·.size) = some seg.length) (hfit : off + seg.length ≤ cur.size) (h1 : ∀ q ∈ seg, q.oneCell' = true) (cur' : Array Value) (hc : (cur.toList.take off ++ seg ++ cur.toList.drop (off + seg.length)).toArray = cur')
    (h : ∀ w1, w1.heap[g]? = some (.cells cur' tt (0, 0)) → W.grownBy w1 (some g) → wpList P ops Q rest a w1) : wpList P ops Q (o :: rest) a W := by
  subst hc
  have hst := run_storeCells_at P g off tt seg 0 cur W hg (by simpa using hfit) h1
  simp only [Nat.add_zero] at hst
  have hrun : (Instr.storeAt t (.pointer (some ⟨g, off, none⟩)) u).run P W = .ok () (W.setRow g (cur.toList.take off ++ seg ++ cur.toList.drop (off + seg.length)).toArray) := by
    obtain ⟨i, hi, hsz⟩ := Option.map_eq_some_iff.1 ht
    have hcs : u.cells.size = i.size := by rw [hsz, ← hu, Array.length_toList]
    simp [Instr.storeAt, Instr.sureAddr, storeVar, sizeOf, typeInfo, hi, hcs, hu, hst]
  refine wpList_plain hgd fun K hK => ?_
  unfold Oper.wp execOp
  simp only [ho, hp, hx, Sem.run_bind, Sem.run_pure, Result.andThen_ok, hrun]
  show K (a.put o.dst undef) _
  rw [hN]
  exact hK a _ (h _ (setRow_heap W g cur _ tt _ hg) ⟨rfl, rfl, rfl, by simp, fun k _ hk => setRow_other W g k _ (fun e => hk (by rw [e]))⟩)
theorem l01In_dec (a l h : Int) : spec_l01In.f a l h = some (decide (l ≤ a ∧ a ≤ h)) := by
  unfold spec_l01In.f
  by_cases h1 : l ≤ a
  · rw [if_pos h1]; simp [h1]
  rw [if_neg h1]; simp [h1]
def spec_DiskOk.f (k : Nat) (l0_0 : List S67) : Option Bool := some (diskOkV l0_0)
theorem spec_DiskOk.mono : ∀ a0 k, LeO (spec_DiskOk.f k a0) (spec_DiskOk.f (k + 1) a0) := fun _ _ => LeO.refl _
set_option maxHeartbeats 8000000 in
set_option maxRecDepth 100000 in
theorem spec_DiskOk.calls (k : Nat) (A0_0 : Option Addr) (c0_0 : Nat) (l0_0 : List S67) (r : Bool) (w : World) (hr0_0 : Kd.C k67 w A0_0 l0_0.length l0_0) (hc0_0 : l0_0.length ≤ c0_0) (h : spec_DiskOk.f k l0_0 = some r) :
    Calls Try.prog 41 #[.agg #[.slice A0_0 l0_0.length c0_0]] w fun e w' => e = .returned (.bool r) ∧ Below w.heap.size w w' := by
  have HRV := AM (Option.some.inj h)
  have hu30 := Try.underlying30
  have hu67 := Try.underlying67
  have HR0 := AM hr0_0
  have HC0 := AM hc0_0
  have hmx : l0_0.length ≤ 9223372036854775807 := hr0_0.2.1
  clear hr0_0 hc0_0 h
  have HB := AM (Below.refl w.heap.size w)
  by_cases c0 : (l0_0.length : Int) > 30
  · have c0b0 : decide (30 < (l0_0.length : Int)) = true := decide_eq_true c0
    have c0b1 : decide (30 < l0_0.length) = true := decide_eq_true (by omega)
    have HV0 : Aside0 (r = false) := ⟨by rw [← HRV.out, diskOkV, decide_eq_false (show ¬ (l0_0.length : Int) ≤ 30 by omega), Bool.false_and]⟩
    clear HRV c0
    go_enter Try.func41, Try.ntmps41
    go_wp2_with (first | ((with_reducible refine gd 1 rfl ?_); refine bx (N := 1) (cs := #[.slice A0_0 l0_0.length c0_0]) (t := 30) ?_; intro gb1 hg w1 hbox hb; have BK1 := AM hbox; have GE1 := AM (bs hg HB); replace HB := bq HB hb; clear hb hbox hg; have hcz1_0 := bv BK1 0 (.slice A0_0 l0_0.length c0_0)))
    go_ret
    exact ⟨by rw [HV0.out]; first | done | rfl, hB HB⟩
  have c0b0 : decide (30 < (l0_0.length : Int)) = false := decide_eq_false c0
  have c0b1 : decide (30 < l0_0.length) = false := decide_eq_false (by omega)
  have HV1 : Aside0 (allFrom l0_0 l0_0.length 0 = true → r = true) := ⟨fun e => by rw [← HRV.out, diskOkV, e, Bool.and_true]; exact decide_eq_true (by omega)⟩
  have HV2 : Aside0 (allFrom l0_0 l0_0.length 0 = false → r = false) := ⟨fun e => by rw [← HRV.out, diskOkV, e, Bool.and_false]⟩
  clear HRV c0
  go_enter Try.func41, Try.ntmps41
  go_wp2_with (first | ((with_reducible refine gd 1 rfl ?_); refine bx (N := 1) (cs := #[.slice A0_0 l0_0.length c0_0]) (t := 30) ?_; intro gb1 hg w1 hbox hb; have BK1 := AM hbox; have GE1 := AM (bs hg HB); replace HB := bq HB hb; clear hb hbox hg; have hcz1_0 := bv BK1 0 (.slice A0_0 l0_0.length c0_0)))
  go_loopg [3] l0_0.length (fun kq v3 w' => ∃ i : Nat, v3 = .int .i64 (i : Int) ∧ Aside0 (i ≤ l0_0.length) ∧ Aside0 (kq = l0_0.length - i) ∧ Aside0 (allFrom l0_0 (l0_0.length - i) i = allFrom l0_0 l0_0.length 0) ∧ Aside0 (w'.heap[gb1]? = some (.cells #[.slice A0_0 l0_0.length c0_0] 30 (0, 0))) ∧ Aside0 (Below w.heap.size w w'))
  case atStart => exact ⟨0, by first | rfl | simp, ⟨Nat.zero_le _⟩, ⟨rfl⟩, ⟨rfl⟩, BK1, ⟨hB HB⟩⟩
  clear HB hcz1_0 BK1
  obtain ⟨i, rfl, HI, HKQ, HA, BK1, HB⟩ := hrel
  have hcz1_0 := bv BK1 0 (.slice A0_0 l0_0.length c0_0)
  by_cases ci : i < l0_0.length
  · have cib : decide ((i : Int) < (l0_0.length : Int)) = true := decide_eq_true (by omega)
    have cib2 : decide (i < l0_0.length) = true := decide_eq_true ci
    have p1 : 0 ≤ (i : Int) := by omega
    have q1 : (i : Int) < (l0_0.length : Int) := by omega
    obtain ⟨x, hx⟩ : ∃ x, x = rd_T67 l0_0 (i : Int) := ⟨_, rfl⟩
    have HP : Aside0 (allFrom l0_0 (l0_0.length - i) i = (placeOk l0_0 i && allFrom l0_0 (l0_0.length - (i + 1)) (i + 1))) := ⟨by rw [show l0_0.length - i = (l0_0.length - (i + 1)) + 1 by omega, allFrom]⟩
    obtain ⟨ad1, e1, hx0, hx1, hx2⟩ := at_T67 HR0.out (i : Int) p1 q1
    cases e1
    rw [← hx] at hx0 hx1 hx2
    rw [Int.toNat_natCast] at hx0 hx1 hx2
    have HX0 := AM hx0
    have HX1 := AM hx1
    have HX2 := AM hx2
    clear hx0 hx1 hx2
    have hxx0 := cl HB HX0.out
    have hxx1 := cl HB HX1.out
    have hxx2 := cl HB HX2.out
    have HXE := AM hx
    have WI := AM (wsuccJ (i := i) (by omega))
    have HI2 := AM ci
    have hib : (i : Int) ≤ 9223372036854775806 := by omega
    replace p1 := eq_true p1
    replace q1 := eq_true q1
    clear hx
    go_upto_region 7 with (first | ((with_reducible refine gd 4 rfl ?_); refine bx (N := 4) (cs := #[.string (⟨#[]⟩ : ByteArray), .string (⟨#[]⟩ : ByteArray), .int .i64 0]) (t := 67) ?_; intro gb4 hg w4 hbox hb; have n0_ := bq HB hb; have n1_ := AM hbox; have n2_ := AM (bs hg HB); replace BK1 := bw BK1 hb; clear hcz1_0 hxx0 hxx1 hxx2; clear HB; have HB := n0_; have BK4 := n1_; have GE4 := n2_; clear hb hbox hg n0_ n1_ n2_; have hcz1_0 := bv BK1 0 (.slice (some ad1) l0_0.length c0_0); have hxx0 := cl HB HX0.out; have hxx1 := cl HB HX1.out; have hxx2 := cl HB HX2.out) | ((with_reducible refine gate_ (.store 67 (.tmp 4) (.tmp 20)) rfl ?_); refine blk_store_event rfl rfl 67 (.tmp 4) (.tmp 20) rfl gb4 0 (by rfl) (.agg #[.string x.f0, .string x.f1, .int .i64 x.f2]) (by rfl) #[.string (⟨#[]⟩ : ByteArray), .string (⟨#[]⟩ : ByteArray), .int .i64 0] 67 BK4.out [.string x.f0, .string x.f1, .int .i64 x.f2] rfl (by kernel_rfl) (show 0 + 3 ≤ 3 by decide) (by intro q hq; simp at hq; rcases hq with rfl | rfl | rfl <;> rfl) #[.string x.f0, .string x.f1, .int .i64 x.f2] rfl ?_; intro w5 hbox hg; clear hcz1_0 hxx0 hxx1 hxx2; have n0_ := AM (HB.out.grown hg (below_size (hB HB)) (fun k hk => by injection hk with hk; have := GE4.out; omega)); have n1_ := AM (blk_grown BK1.out hg (fun e => blk_ne BK1.out BK4.out (by decide) (Option.some.inj e))); clear HB BK1 BK4; have HB := n0_; have BK1 := n1_; have BK4 := AM hbox; clear hg hbox n0_ n1_; have hcz1_0 := bv BK1 0 (.slice (some ad1) l0_0.length c0_0); have hcz4_0 := bv BK4 0 (.string x.f0); have hcz4_1 := bv BK4 1 (.string x.f1); have hcz4_2 := bv BK4 2 (.int .i64 x.f2)))
    simp only [Act.put, List.setIfInBounds_toArray, List.set_cons_succ, List.set_cons_zero]
    have bad : placeOk l0_0 i = false → r = false := fun e => by have h_ := HP.out; rw [e, Bool.false_and] at h_; exact HV2.out (HA.out.symm.trans h_)
    have good : placeOk l0_0 i = true → allFrom l0_0 (l0_0.length - (i + 1)) (i + 1) = allFrom l0_0 l0_0.length 0 := fun e => by have h_ := HP.out; rw [e, Bool.true_and] at h_; exact h_.symm.trans HA.out
    have HBD := AM bad
    have HGD := AM good
    clear bad good
    have hpl : placeOk l0_0 i = (decide (1 ≤ (x.f0.size : Int) ∧ (x.f0.size : Int) ≤ 8) && decide (¬ (x.f1.size : Int) > 20000) && decide (0 ≤ x.f2 ∧ x.f2 ≤ (x.f1.size : Int)) && (decide (i = 0) || Op.bytesLess ((rd_T67 l0_0 ((i - 1 : Nat) : Int)).f0.toList) (x.f0.toList))) := by unfold placeOk fileOk; rw [← HXE.out]
    by_cases c1 : 1 ≤ (x.f0.size : Int) ∧ (x.f0.size : Int) ≤ 8
    case neg =>
      have HW1 := AM (show spec_l03Name.f x.f0 = some false from by unfold spec_l03Name.f; rw [l01In_dec, decide_eq_false c1]; rfl)
      have HV0 := AM (HBD.out (by rw [hpl, decide_eq_false c1]; simp only [Bool.false_and]))
      clear hpl c1
      go_quiet (first | (go_at_call 45; exact quiet_drawn (spec_l03Name.calls _ _ _ HW1.out)) | (go_at_call 55; exact quiet_drawn (spec_l01In.calls _ _ _ _ _ HW2.out)))
      go_wp2
      go_ret
      exact ⟨by rw [HV0.out]; first | done | rfl, hB HB⟩
    have HW1 := AM (show spec_l03Name.f x.f0 = some true from by unfold spec_l03Name.f; rw [l01In_dec, decide_eq_true c1]; rfl)
    by_cases c2 : (x.f1.size : Int) > 20000
    · have HV0 := AM (HBD.out (by rw [hpl, decide_eq_false (not_not_intro c2)]; simp only [Bool.false_and, Bool.and_false]))
      have c2b0 : decide (20000 < (x.f1.size : Int)) = true := decide_eq_true c2
      have c2b1 : decide (20000 < x.f1.size) = true := decide_eq_true (by omega)
      clear hpl c1 c2
      go_quiet (first | (go_at_call 45; exact quiet_drawn (spec_l03Name.calls _ _ _ HW1.out)) | (go_at_call 55; exact quiet_drawn (spec_l01In.calls _ _ _ _ _ HW2.out)))
      go_wp2
      go_ret
      exact ⟨by rw [HV0.out]; first | done | rfl, hB HB⟩
    have c2b0 : decide (20000 < (x.f1.size : Int)) = false := decide_eq_false c2
    have c2b1 : decide (20000 < x.f1.size) = false := decide_eq_false (by omega)
    by_cases c3 : 0 ≤ x.f2 ∧ x.f2 ≤ (x.f1.size : Int)
    case neg =>
      have HW2 := AM (show spec_l01In.f x.f2 0 (x.f1.size : Int) = some false from by rw [l01In_dec, decide_eq_false c3])
      have HV0 := AM (HBD.out (by rw [hpl, decide_eq_false c3]; simp only [Bool.false_and, Bool.and_false]))
      clear hpl c1 c2 c3
      go_quiet (first | (go_at_call 45; exact quiet_drawn (spec_l03Name.calls _ _ _ HW1.out)) | (go_at_call 55; exact quiet_drawn (spec_l01In.calls _ _ _ _ _ HW2.out)))
      go_wp2
      go_ret
      exact ⟨by rw [HV0.out]; first | done | rfl, hB HB⟩
    have HW2 := AM (show spec_l01In.f x.f2 0 (x.f1.size : Int) = some true from by rw [l01In_dec, decide_eq_true c3])
    by_cases c4 : i = 0
    · have HA1 := AM (HGD.out (by rw [hpl, decide_eq_true c1, decide_eq_true c2, decide_eq_true c3, decide_eq_true c4]; rfl))
      have c4b0 : decide (0 < (i : Int)) = false := decide_eq_false (by omega)
      have c4b1 : decide (0 < i) = false := decide_eq_false (by omega)
      clear hpl c1 c2 c3 c4
      go_quiet (first | (go_at_call 45; exact quiet_drawn (spec_l03Name.calls _ _ _ HW1.out)) | (go_at_call 55; exact quiet_drawn (spec_l01In.calls _ _ _ _ _ HW2.out)))
      go_wp2
      go_roundg (l0_0.length - (i + 1))
      case measure => have := HKQ.out; omega
      case rel => exact ⟨i + 1, by first | rfl | (rw [WI.out]), ⟨by have := HI2.out; omega⟩, ⟨rfl⟩, HA1, ⟨bk BK1⟩, ⟨hB HB⟩⟩
    have c4b0 : decide (0 < (i : Int)) = true := decide_eq_true (by omega)
    have c4b1 : decide (0 < i) = true := decide_eq_true (by omega)
    obtain ⟨m, hm⟩ : ∃ m : Nat, m = i - 1 := ⟨_, rfl⟩
    obtain ⟨y, hy⟩ : ∃ y, y = rd_T67 l0_0 (m : Int) := ⟨_, rfl⟩
    rw [← hm, ← hy, decide_eq_true c1, decide_eq_true c2, decide_eq_true c3, decide_eq_false c4, Bool.true_and, Bool.true_and, Bool.true_and, Bool.false_or] at hpl
    have hj1 : (i : Int) - 1 = (m : Int) := by omega
    have hj2 : IntKind.i64.wrap ((i : Int) - 1) = (m : Int) := by rw [IntKind.wrap_i64]; omega
    have p2 := eq_true (show 0 ≤ (m : Int) by omega)
    have q2 := eq_true (show (m : Int) < (l0_0.length : Int) by omega)
    have p3 := eq_true (show 1 ≤ (i : Int) by omega)
    obtain ⟨ad2, e2, hy0, hy1, hy2⟩ := at_T67 HR0.out (m : Int) (by omega) (by omega)
    cases e2
    rw [← hy] at hy0
    rw [Int.toNat_natCast] at hy0
    have hyy0 := cl HB hy0
    by_cases c5 : Op.bytesLess y.f0.toList x.f0.toList = true
    · have HA1 := AM (HGD.out (hpl.trans c5))
      clear hpl c1 c2 c3 c4 hm hy hy0 hy1 hy2
      go_quiet (first | (go_at_call 45; exact quiet_drawn (spec_l03Name.calls _ _ _ HW1.out)) | (go_at_call 55; exact quiet_drawn (spec_l01In.calls _ _ _ _ _ HW2.out)))
      go_wp2
      go_roundg (l0_0.length - (i + 1))
      case measure => have := HKQ.out; omega
      case rel => exact ⟨i + 1, by first | rfl | (rw [WI.out]), ⟨by have := HI2.out; omega⟩, ⟨rfl⟩, HA1, ⟨bk BK1⟩, ⟨hB HB⟩⟩
    have c5b0 : Op.bytesLess y.f0.toList x.f0.toList = false := by simpa using c5
    have HV0 := AM (HBD.out (hpl.trans c5b0))
    clear hpl c1 c2 c3 c4 hm hy hy0 hy1 hy2 c5
    go_quiet (first | (go_at_call 45; exact quiet_drawn (spec_l03Name.calls _ _ _ HW1.out)) | (go_at_call 55; exact quiet_drawn (spec_l01In.calls _ _ _ _ _ HW2.out)))
    go_wp2
    go_ret
    exact ⟨by rw [HV0.out]; first | done | rfl, hB HB⟩
  have cib : decide ((i : Int) < (l0_0.length : Int)) = false := decide_eq_false (by omega)
  have cib2 : decide (i < l0_0.length) = false := decide_eq_false ci
  have HV0 := AM (HV1.out (by have h_ := HA.out; have h2_ := HI.out; rw [show l0_0.length - i = 0 by omega] at h_; exact h_.symm))
  go_wp2
  go_ret
  exact ⟨by rw [HV0.out]; first | done | rfl, hB HB⟩


end Go.Proofs.Ytnkldnkolcighaa.XFnExactCutActs
