/- The program's ReadDecimal and the reference's ReadDecimal return the same, for every text. -/
import Derived.Test.YtfagleffamhimaaDoorXFnExactReadDecimalx1
set_option linter.unusedVariables false
set_option linter.unusedSimpArgs false
namespace Go.Proofs.YtfagleffamhimaaDoor.Pure
open Go.RowKit Go.Proofs.YtfagleffamhimaaDoor.XFnExactReadDecimal Go.Proofs.YtfagleffamhimaaDoorW.PrintWords Go.Proofs.YtfagleffamhimaaDoorW.PrintLast

/-! ### small words -/
theorem w64 {x : Int} (h0 : -9223372036854775808 ≤ x) (h1 : x ≤ 9223372036854775807) : wrap64 x = x := by
  unfold wrap64
  omega
theorem wf64 {x : Int} (h : (Lit.int .i64 x).wf = true) : -9223372036854775808 ≤ x ∧ x ≤ 9223372036854775807 := by
  simp [Lit.wf, IntKind.min, IntKind.max, IntKind.signed, IntKind.bits] at h
  omega
theorem wfu32 {x : Int} (h : (Lit.int .u32 x).wf = true) : 0 ≤ x ∧ x ≤ 4294967295 := by
  simp [Lit.wf, IntKind.min, IntKind.max, IntKind.signed, IntKind.bits] at h
  omega
theorem wfu8 {x : Int} (h : (Lit.int .u8 x).wf = true) : 0 ≤ x ∧ x ≤ 255 := by
  simp [Lit.wf, IntKind.min, IntKind.max, IntKind.signed, IntKind.bits] at h
  omega
theorem wsucc {n : Nat} (h : n ≤ 4611686018427387904) : wrap64 ((n : Int) + 1) = ((n + 1 : Nat) : Int) := by
  rw [w64 (by omega) (by omega)]
  rfl
theorem wadd {a b : Nat} (h : a + b ≤ 4611686018427387904) : wrap64 ((a : Int) + (b : Int)) = ((a + b : Nat) : Int) := by
  rw [w64 (by omega) (by omega)]
  rfl
theorem wnat {n : Nat} (h : n ≤ 4611686018427387904) : wrap64 (n : Int) = (n : Int) := w64 (by omega) (by omega)
theorem Ev.some_bind {α β : Type} {a : Option α} {x : α} (h : a = some x) {f : Nat → α → Option β} {r : β} (k : Ev (fun n => f n x) r) : Ev (fun n => a.bind (f n)) r := by
  subst h
  exact k
theorem Ev.pos {α : Type} {p : Prop} [Decidable p] (h : p) {f g : Nat → Option α} {r : α} (k : Ev f r) : Ev (fun n => if p then f n else g n) r :=
  Ev.congr (fun _ => if_pos h) k
theorem Ev.neg {α : Type} {p : Prop} [Decidable p] (h : ¬ p) {f g : Nat → Option α} {r : α} (k : Ev g r) : Ev (fun n => if p then f n else g n) r :=
  Ev.congr (fun _ => if_neg h) k
theorem tmod_nat {x : Int} (h0 : 0 ≤ x) (N : Nat) : ∃ c : Nat, Int.tmod x ((N + 1 : Nat) : Int) = (c : Int) ∧ c ≤ N := by
  obtain ⟨c, hc⟩ := Int.eq_ofNat_of_zero_le (Int.tmod_nonneg ((N + 1 : Nat) : Int) h0)
  have hlt := Int.tmod_lt_of_pos x (show (0 : Int) < ((N + 1 : Nat) : Int) by omega)
  rw [hc] at hlt
  exact ⟨c, hc, by omega⟩

theorem strOfNums_size (xs : List Int) : (strOfNums xs).size = xs.length := by simp [strOfNums, ByteArray.size]
theorem str_ext {a b : ByteArray} (h : a.data.toList = b.data.toList) : a = b := by
  apply ByteArray.ext
  exact Array.toList_inj.1 h
theorem str_app (a b : ByteArray) : (a ++ b).data.toList = a.data.toList ++ b.data.toList := by simp [ByteArray.data_append]
theorem str_cut (s : ByteArray) (a b : Nat) : (s.extract a b).data.toList = (s.data.toList.drop a).take (b - a) := by
  obtain ⟨⟨l⟩⟩ := s
  simp [ByteArray.data_extract, List.extract_eq_take_drop]
theorem str_len (s : ByteArray) : s.data.toList.length = s.size := rfl
theorem str_toList {a b : ByteArray} : a.toList = b.toList ↔ a = b := by
  rw [ByteArray.toList_eq, ByteArray.toList_eq]
  exact ⟨str_ext, fun h => by rw [h]⟩
theorem str_split (s : ByteArray) (n : Nat) (h : n ≤ s.size) : s.extract 0 n ++ s.extract n s.size = s := by
  apply str_ext
  rw [str_app, str_cut, str_cut, List.drop_zero, Nat.sub_zero, List.take_of_length_le (l := s.data.toList.drop n) (by simp [str_len]), List.take_append_drop]
theorem str_app_inj {a b c : ByteArray} (h : a ++ b = a ++ c) : b = c := by
  have := congrArg (fun s : ByteArray => s.data.toList) h
  simp only [str_app] at this
  exact str_ext (List.append_cancel_left this)
theorem cut_size (s : ByteArray) {n : Nat} (h : n ≤ s.size) : (s.extract 0 n).size = n := by
  rw [ByteArray.size_extract]
  omega

/-! ### figures -/
def fig (d : Nat) : Int := if d < 10 then ((48 + d : Nat) : Int) else ((87 + d : Nat) : Int)
def figs (b : UInt8) : List Int := [fig (b.toNat / 16), fig (b.toNat % 16)]
def hexL (l : List UInt8) : List Int := l.flatMap figs
def hexV (s : ByteArray) : ByteArray × Bool := if (s.size : Int) > 20000 then ((⟨#[]⟩ : ByteArray), false) else (strOfNums (hexL s.data.toList), true)
theorem hexL_length (l : List UInt8) : (hexL l).length = 2 * l.length := by
  induction l with
  | nil => rfl
  | cons b l ih => simp only [hexL, List.flatMap_cons, List.length_append] at ih ⊢; rw [ih]; simp [figs]; omega
theorem hexL_snoc (l : List UInt8) (b : UInt8) : hexL (l ++ [b]) = hexL l ++ figs b := by simp [hexL, List.flatMap_append]
theorem bt_nat (s : ByteArray) {i : Nat} (h : i < s.size) : bt s (i : Int) = ((s.data.toList[i]'h).toNat : Int) := by
  unfold bt
  rw [dif_pos (by simpa using h)]
  rfl
theorem take_snoc (s : ByteArray) {i : Nat} (h : i < s.size) : s.data.toList.take (i + 1) = s.data.toList.take i ++ [s.data.toList[i]'h] := by
  rw [List.take_succ_eq_append_getElem h]

/-! ### decimal numerals -/
def numT (neg : Bool) (l : List UInt8) : ByteArray := ⟨((if neg = true then [45] else []) ++ l).toArray⟩
theorem dec_step (m : Nat) (l : List UInt8) : Lib.decDigits m ++ l = (if m < 10 then [] else Lib.decDigits (m / 10)) ++ (UInt8.ofNat (48 + m % 10) :: l) := by
  by_cases h : m < 10
  · rw [if_pos h, Lib.decDigits, dif_pos h, Nat.mod_eq_of_lt h]
    rfl
  · rw [if_neg h, Lib.decDigits, dif_neg h, List.append_assoc]
    rfl
theorem fig_eq {d : Nat} (h : d < 10) : spec_l01Figure.f (d : Int) = some ((48 + d : Nat) : Int) := by
  unfold spec_l01Figure.f
  rw [if_pos (by omega), w64 (by omega) (by omega)]
  congr 1
  omega
theorem one_char (c : Nat) (s : ByteArray) : strOfNums [((c : Nat) : Int)] ++ s = ⟨(UInt8.ofNat c :: s.data.toList).toArray⟩ := by
  apply str_ext
  rw [str_app]
  rfl
theorem dec10 (x : Int) {m : Nat} (h : x.natAbs = m) : (x = (m : Int) ∧ Int.tdiv x 10 = ((m / 10 : Nat) : Int) ∧ Int.tmod x 10 = ((m % 10 : Nat) : Int)) ∨ (x = -(m : Int) ∧ Int.tdiv x 10 = -((m / 10 : Nat) : Int) ∧ Int.tmod x 10 = -((m % 10 : Nat) : Int)) := by
  rcases Int.natAbs_eq x with e | e
  · rw [h] at e
    subst e
    exact .inl ⟨rfl, rfl, rfl⟩
  · rw [h] at e
    subst e
    refine .inr ⟨rfl, ?_, ?_⟩
    · rw [Int.neg_tdiv]
      rfl
    · rw [Int.neg_tmod]
      rfl
theorem one_size (c : Int) (s : ByteArray) : (strOfNums [c] ++ s).size = s.size + 1 := by
  rw [ByteArray.size_append, strOfNums_size, List.length_singleton, Nat.add_comm]
theorem one_fits (c : Int) {s : ByteArray} (h : s.size ≤ 1000) : (strOfNums [c]).size + s.size ≤ 9223372036854775807 := by
  rw [strOfNums_size, List.length_singleton]
  omega
theorem dec_round (neg : Bool) {m : Nat} {x : Int} {s : ByteArray} (hx : x.natAbs = m) (h0 : m ≠ 0) (hM : m ≤ 9223372036854775808) (hs : s.size ≤ 1000) (k : Nat) :
    spec_Decimal.l0 (k + 1) x neg s = spec_Decimal.l0 k (Int.tdiv x 10) neg (strOfNums [((48 + m % 10 : Nat) : Int)] ++ s) := by
  simp only [spec_Decimal.l0]
  rw [if_neg (by omega)]
  rcases dec10 x hx with ⟨e, hq, hd⟩ | ⟨e, hq, hd⟩
  · rw [hq, hd, w64 (x := ((m / 10 : Nat) : Int)) (by omega) (by omega), if_neg (by omega), fig_eq (by omega), Option.bind_some, Option.bind_some, if_pos (one_fits _ hs)]
  · rw [hq, hd, w64 (x := -((m / 10 : Nat) : Int)) (by omega) (by omega)]
    by_cases c : -((m % 10 : Nat) : Int) < 0
    · rw [if_pos c, Int.neg_neg, w64 (x := ((m % 10 : Nat) : Int)) (by omega) (by omega), fig_eq (by omega), Option.bind_some, Option.bind_some, if_pos (one_fits _ hs)]
    · have c2 : m % 10 = 0 := by omega
      rw [if_neg c, c2, show -((0 : Nat) : Int) = ((0 : Nat) : Int) from rfl, fig_eq (by omega), Option.bind_some, Option.bind_some, if_pos (one_fits _ hs)]
theorem dec_end (neg : Bool) (s : ByteArray) (hs : s.size ≤ 1000) : Ev (fun k => spec_Decimal.l0 k 0 neg s) (numT neg s.data.toList) := by
  refine Ev.step (f := fun _ => some (numT neg s.data.toList)) (fun k => ?_) (Ev.now _)
  simp only [spec_Decimal.l0, if_true]
  cases neg with
  | true =>
    rw [if_pos rfl, if_pos (by omega)]
    congr 1
  | false =>
    rw [if_neg (by simp)]
    rfl
theorem dec_loop (neg : Bool) : ∀ (d m : Nat) (x : Int) (s : ByteArray), x.natAbs = m → m < 10 ^ (d + 1) → m ≠ 0 → m ≤ 9223372036854775808 → s.size + d ≤ 100 → Ev (fun k => spec_Decimal.l0 k x neg s) (numT neg (Lib.decDigits m ++ s.data.toList)) := by
  intro d
  induction d with
  | zero =>
    intro m x s hx hm h0 hM hs
    have hm' : m < 10 := by simpa using hm
    have z := dec_end neg (strOfNums [((48 + m % 10 : Nat) : Int)] ++ s) (by rw [one_size]; omega)
    rw [dec_step, if_pos hm', List.nil_append]
    have hq : Int.tdiv x 10 = 0 := by rcases dec10 x hx with ⟨_, hq, _⟩ | ⟨_, hq, _⟩ <;> rw [hq] <;> omega
    refine Ev.step (fun k => dec_round neg hx h0 hM (by omega) k) ?_
    rw [hq]
    rw [one_char] at z ⊢
    exact z
  | succ d ih =>
    intro m x s hx hm h0 hM hs
    have hsz := one_size ((48 + m % 10 : Nat) : Int) s
    have hp : 10 ^ (d + 1 + 1) = 10 * 10 ^ (d + 1) := by rw [Nat.pow_succ, Nat.mul_comm]
    have hn : (Int.tdiv x 10).natAbs = m / 10 := by rcases dec10 x hx with ⟨_, hq, _⟩ | ⟨_, hq, _⟩ <;> rw [hq] <;> omega
    refine Ev.step (fun k => dec_round neg hx h0 hM (by omega) k) ?_
    rw [dec_step]
    by_cases c : m < 10
    · rw [if_pos c, List.nil_append, show Int.tdiv x 10 = 0 by omega]
      have z := dec_end neg (strOfNums [((48 + m % 10 : Nat) : Int)] ++ s) (by omega)
      rw [one_char] at z ⊢
      exact z
    · rw [if_neg c]
      have z := ih (m / 10) (Int.tdiv x 10) (strOfNums [((48 + m % 10 : Nat) : Int)] ++ s) hn (by omega) (by omega) (by omega) (by omega)
      rw [one_char] at z ⊢
      exact z
def decT (n : Int) : ByteArray := ⟨(Lib.itoa n).toArray⟩
theorem spec_Decimal_ev {n : Int} (h0 : -9223372036854775808 ≤ n) (h1 : n ≤ 9223372036854775807) : Ev (fun k => spec_Decimal.f k n) (decT n) := by
  unfold spec_Decimal.f
  by_cases c : n = 0
  · subst c
    refine Ev.pos rfl ?_
    rw [show decT 0 = (⟨#[48]⟩ : ByteArray) by unfold decT Lib.itoa; rw [if_neg (by omega), show ((0 : Int)).toNat = 0 from rfl, Lib.decDigits, dif_pos (by omega)]; rfl]
    exact Ev.now _
  · refine Ev.neg c ?_
    have z := dec_loop (decide (n < 0)) 19 n.natAbs n ⟨#[]⟩ rfl (by omega) (by omega) (by omega) (by decide)
    have e : numT (decide (n < 0)) (Lib.decDigits n.natAbs ++ (⟨#[]⟩ : ByteArray).data.toList) = decT n := by
      unfold numT decT Lib.itoa
      by_cases hn : n < 0
      · rw [if_pos (decide_eq_true hn), if_pos hn, List.append_nil]
        rfl
      · rw [if_neg (by simpa using hn), if_neg hn, List.append_nil, List.nil_append, show n.natAbs = n.toNat by omega]
    rw [e] at z
    exact z

/-! ### decimal numerals, read back -/
def valF (acc : Nat) (l : List UInt8) : Nat := l.foldl (fun n b => n * 10 + (b.toNat - 48)) acc
theorem valF_ge : ∀ (l : List UInt8) (acc : Nat), acc ≤ valF acc l
  | [], _ => Nat.le_refl _
  | b :: l, acc => by
    have := valF_ge l (acc * 10 + (b.toNat - 48))
    show acc ≤ valF (acc * 10 + (b.toNat - 48)) l
    omega
theorem valF_snoc (l : List UInt8) (b : UInt8) : valF 0 (l ++ [b]) = valF 0 l * 10 + (b.toNat - 48) := by
  unfold valF
  rw [List.foldl_append]
  rfl
theorem fig_nat {u : Nat} (h : u < 10) : (UInt8.ofNat (48 + u)).toNat = 48 + u := by
  rw [UInt8.toNat_ofNat']
  omega
theorem decDigits_all (u : Nat) : ∀ b ∈ Lib.decDigits u, 48 ≤ b.toNat ∧ b.toNat ≤ 57 := by
  induction u using Nat.strongRecOn with
  | _ u ih =>
    intro b hb
    rw [Lib.decDigits] at hb
    by_cases h : u < 10
    · rw [dif_pos h, List.mem_singleton] at hb
      rw [hb, fig_nat h]
      omega
    · rw [dif_neg h, List.mem_append, List.mem_singleton] at hb
      rcases hb with hb | hb
      · exact ih (u / 10) (by omega) b hb
      · rw [hb, fig_nat (by omega)]
        omega
theorem decDigits_val (u : Nat) : valF 0 (Lib.decDigits u) = u := by
  induction u using Nat.strongRecOn with
  | _ u ih =>
    rw [Lib.decDigits]
    by_cases h : u < 10
    · rw [dif_pos h]
      show 0 * 10 + ((UInt8.ofNat (48 + u)).toNat - 48) = u
      rw [fig_nat h]
      omega
    · rw [dif_neg h, valF_snoc, ih (u / 10) (by omega), fig_nat (by omega)]
      omega
theorem nDigits_le : ∀ (k u : Nat), u < 10 ^ (k + 1) → Lib.nDigits u ≤ k + 1
  | 0, u, h => by
    rw [Lib.nDigits_small (by omega)]
    exact Nat.le_refl _
  | k + 1, u, h => by
    by_cases c : u < 10
    · rw [Lib.nDigits_small c]
      omega
    · rw [Lib.nDigits_big c]
      have := nDigits_le k (u / 10) (by rw [Nat.pow_succ] at h; omega)
      omega
theorem decDigits_len {u : Nat} (h : u ≤ 1000000000) : (Lib.decDigits u).length ≤ 10 ∧ 1 ≤ (Lib.decDigits u).length := by
  rw [Lib.decDigits_length]
  exact ⟨nDigits_le 9 u (Nat.lt_of_le_of_lt h (by decide)), Lib.nDigits_pos u⟩
theorem parse_ok : ∀ (l : List UInt8) (acc : Nat), (∀ b ∈ l, 48 ≤ b.toNat ∧ b.toNat ≤ 57) → valF acc l < 1000000000000 → Lib.parseUint10 acc l = .ok (valF acc l)
  | [], _, _, _ => rfl
  | c :: r, acc, h, hv => by
    have hc := h c List.mem_cons_self
    have hv2 : valF (acc * 10 + (c.toNat - 48)) r < 1000000000000 := hv
    have g := valF_ge r (acc * 10 + (c.toNat - 48))
    simp only [Lib.parseUint10]
    rw [if_pos hc, if_neg (by omega), if_neg (by omega)]
    exact parse_ok r _ (fun b hb => h b (List.mem_cons_of_mem _ hb)) hv2
theorem atoi_dec {u : Nat} (h : u ≤ 1000000000) : Lib.atoiAll (Lib.decDigits u) = .ok (u : Int) := by
  have all := decDigits_all u
  have val := decDigits_val u
  have len := decDigits_len h
  generalize Lib.decDigits u = l at all val len
  cases l with
  | nil => exact absurd len.2 (by simp)
  | cons c r =>
    have hc := all c List.mem_cons_self
    have p := parse_ok (c :: r) 0 all (by omega)
    rw [Lib.atoiAll_plain c r (by omega) (by omega)]
    unfold Lib.parseMag
    rw [if_neg (by simp), p, val]
    show (if 9223372036854775808 ≤ u then Lib.NumEnd.range else Lib.NumEnd.ok (u : Int)) = _
    rw [if_neg (by omega)]
def okD (s : ByteArray) (n : Int) : Prop := (⟨(Lib.itoa n).toArray⟩ : ByteArray) = s ∧ 0 ≤ n ∧ n ≤ 1000000000
theorem okD_list {s : ByteArray} {n : Int} (h : okD s n) : s.data.toList = Lib.decDigits n.toNat := by
  rw [← h.1]
  show Lib.itoa n = _
  unfold Lib.itoa
  rw [if_neg (by have := h.2; omega)]
theorem readV_ok {s : ByteArray} {n : Int} (h : okD s n) : readV s = (n, true) := by
  have e : atoiV s = (n, true) := by
    unfold atoiV
    rw [okD_list h, atoi_dec (by have := h.2; omega)]
    show (((n.toNat : Nat) : Int), true) = (n, true)
    rw [Int.toNat_of_nonneg h.2.1]
  unfold readV
  rw [e]
  exact if_pos ⟨rfl, str_toList.mpr h.1, h.2.1, h.2.2⟩
theorem readV_no {s : ByteArray} (h : ∀ n, ¬ okD s n) : readV s = (0, false) := by
  unfold readV
  exact if_neg (fun e => h _ ⟨str_toList.mp e.2.1, e.2.2.1, e.2.2.2⟩)

theorem valF_lt : ∀ (l : List UInt8) (acc : Nat), (∀ b ∈ l, 48 ≤ b.toNat ∧ b.toNat ≤ 57) → valF acc l < (acc + 1) * 10 ^ l.length
  | [], acc, _ => by
    show acc < (acc + 1) * 1
    omega
  | c :: r, acc, h => by
    have hc := h c List.mem_cons_self
    have ih := valF_lt r (acc * 10 + (c.toNat - 48)) (fun b hb => h b (List.mem_cons_of_mem _ hb))
    rw [List.length_cons, Nat.pow_succ]
    refine Nat.lt_of_lt_of_le ih ?_
    rw [Nat.mul_comm (10 ^ r.length) 10, ← Nat.mul_assoc]
    exact Nat.mul_le_mul_right _ (by omega)
theorem okD_size {s : ByteArray} {n : Int} (h : okD s n) : s.size ≤ 10 := by
  rw [← str_len, okD_list h]
  exact (decDigits_len (by have := h.2; omega)).1
theorem spec_ReadDecimal_ev (s : ByteArray) : Ev (fun k => spec_ReadDecimal.f k s) (readV s) := by
  unfold spec_ReadDecimal.f
  by_cases h : (s.size : Int) > 10
  · rw [readV_no (fun n e => by have := okD_size e; omega)]
    exact Ev.pos h (Ev.now _)
  · refine Ev.neg h ?_
    have key : ∀ d i : Nat, i + d = s.size → (∀ b ∈ s.data.toList.take i, 48 ≤ b.toNat ∧ b.toNat ≤ 57) → Ev (fun k => spec_ReadDecimal.l0 k s ((valF 0 (s.data.toList.take i) : Nat) : Int) (i : Int)) (readV s) := by
      intro d
      induction d with
      | zero =>
        intro i hi hall
        have hv := valF_lt _ 0 hall
        rw [List.length_take, str_len, Nat.min_eq_left (by omega)] at hv
        have hp : 10 ^ i ≤ 10 ^ 10 := Nat.pow_le_pow_right (by decide) (by omega)
        have e10 : (10 : Nat) ^ 10 = 10000000000 := by decide
        rw [List.take_of_length_le (by rw [str_len]; omega)] at hv ⊢
        have back : ∀ n, okD s n → n = ((valF 0 s.data.toList : Nat) : Int) := by
          intro n hn
          rw [okD_list hn, decDigits_val, Int.toNat_of_nonneg hn.2.1]
        generalize valF 0 s.data.toList = v at hv back
        replace hv : v < 10000000000 := by omega
        by_cases c : (v : Int) > 1000000000
        · rw [readV_no (fun n e => by have := back n e; have := e.2; omega)]
          refine Ev.step (f := fun _ => some ((0 : Int), false)) (fun k => ?_) (Ev.now _)
          simp only [spec_ReadDecimal.l0]
          rw [if_neg (by omega), if_pos c]
        · refine Ev.step (f := fun k => (spec_Decimal.f k (v : Int)).bind fun t109 => if t109.toList = s.toList then some ((v : Int), true) else some (0, false)) (fun k => ?_) (Ev.bind (spec_Decimal_ev (n := (v : Int)) (by omega) (by omega)) ?_)
          · simp only [spec_ReadDecimal.l0]
            rw [if_neg (by omega), if_neg c]
          · by_cases c2 : (decT (v : Int)).toList = s.toList
            · rw [readV_ok (n := (v : Int)) ⟨str_toList.mp c2, by omega, by omega⟩]
              exact Ev.pos c2 (Ev.now _)
            · rw [readV_no (fun n e => c2 (by have := back n e; subst this; exact str_toList.mpr e.1))]
              exact Ev.neg c2 (Ev.now _)
      | succ d ih =>
        intro i hi hall
        have hlt : i < s.size := by omega
        have hb := (s.data.toList[i]'hlt).toNat_lt
        have bad : ¬ (48 ≤ (s.data.toList[i]'hlt).toNat ∧ (s.data.toList[i]'hlt).toNat ≤ 57) → readV s = (0, false) := fun nd => readV_no (fun n e => nd (by
          have hm : (s.data.toList[i]'hlt) ∈ s.data.toList := List.getElem_mem _
          have z := decDigits_all n.toNat (s.data.toList[i]'hlt)
          rw [← okD_list e] at z
          exact z hm))
        have hv := valF_lt _ 0 hall
        rw [List.length_take, str_len, Nat.min_eq_left (by omega)] at hv
        have hp : 10 ^ i ≤ 10 ^ 10 := Nat.pow_le_pow_right (by decide) (by omega)
        have e10 : (10 : Nat) ^ 10 = 10000000000 := by decide
        have nx := ih (i + 1) (by omega)
        rw [take_snoc s hlt, valF_snoc] at nx
        have bte := bt_nat s hlt
        generalize valF 0 (s.data.toList.take i) = v at hv nx
        generalize hbb : (s.data.toList[i]'hlt) = b at hb bad nx bte
        replace hv : v < 10000000000 := by omega
        by_cases c1 : bt s (i : Int) < 48
        · rw [bad (by omega)]
          refine Ev.step (f := fun _ => some ((0 : Int), false)) (fun k => ?_) (Ev.now _)
          simp only [spec_ReadDecimal.l0]
          rw [if_pos (by omega), if_pos (by omega), if_pos c1]
        · by_cases c2 : bt s (i : Int) > 57
          · rw [bad (by omega)]
            refine Ev.step (f := fun _ => some ((0 : Int), false)) (fun k => ?_) (Ev.now _)
            simp only [spec_ReadDecimal.l0]
            rw [if_pos (by omega), if_pos (by omega), if_neg c1, if_pos c2]
          · refine Ev.step (fun k => ?_) (nx (fun x hx => by
              rcases List.mem_append.mp hx with hx | hx
              · exact hall x hx
              · rw [List.mem_singleton] at hx
                subst hx
                omega))
            simp only [spec_ReadDecimal.l0]
            rw [if_pos (by omega), if_pos (by omega), if_neg c1, if_neg c2]
            have e : wrap64 (wrap64 (wrap64 (10 * (v : Int)) + wrap64 (bt s (i : Int))) - 48) = ((v * 10 + (b.toNat - 48) : Nat) : Int) := by
              have f1 : ∀ x : Int, -9223372036854775808 ≤ x → x ≤ 9223372036854775807 → wrap64 x = x := fun x h0 h1 => w64 h0 h1
              rw [f1 (10 * (v : Int)) (by omega) (by omega), f1 (bt s (i : Int)) (by omega) (by omega), f1 (10 * (v : Int) + bt s (i : Int)) (by omega) (by omega), f1 (10 * (v : Int) + bt s (i : Int) - 48) (by omega) (by omega)]
              omega
            rw [e, wsucc (by omega)]
    exact key s.size 0 (by omega) (by simp)

theorem FnExactReadDecimal : laws_FnExactReadDecimal.Pure := by
  intro a ha
  refine Ev.rounds ?_
  unfold laws_FnExactReadDecimal.f
  by_cases c : (a.size : Int) > 1048576
  · exact Ev.pos c (Ev.now _)
  refine Ev.neg c ?_
  have e : impl_ReadDecimal.f a = some (readV a) := by
    unfold impl_ReadDecimal.f
    exact if_pos (by omega)
  have sp := spec_ReadDecimal_ev a
  refine Ev.bind sp (Ev.some_bind e (Ev.pos rfl (Ev.neg ?_ (Ev.now _))))
  simp


end Go.Proofs.YtfagleffamhimaaDoor.Pure
