/- The program's Decimal and the reference's Decimal return the same, for every number. -/
import Derived.Test.YtfagleffamhimaaDoorXFnExactDecimalx1
set_option linter.unusedVariables false
set_option linter.unusedSimpArgs false
namespace Go.Proofs.YtfagleffamhimaaDoor.Pure
open Go.RowKit Go.Proofs.YtfagleffamhimaaDoor.XFnExactDecimal Go.Proofs.YtfagleffamhimaaDoorW.PrintWords Go.Proofs.YtfagleffamhimaaDoorW.PrintLast

/-! ### small words -/
theorem w64 {x : Int} (h0 : -9223372036854775808 ≤ x) (h1 : x ≤ 9223372036854775807) : wrap64 x = x := by
  unfold wrap64
  omega
theorem wf64 {x : Int} (h : (Lit.int .i64 x).wf = true) : -9223372036854775808 ≤ x ∧ x ≤ 9223372036854775807 := by
  simp [Lit.wf, IntKind.min, IntKind.max, IntKind.signed, IntKind.bits] at h
  omega
theorem wfu32 {x : Int} (h : (Lit.int .u32 x).wf = true) : 0 ≤ x ∧ x ≤ 4294967295 := by
  simp [Lit.wf, IntKind.min, IntKind.max, IntKind.signed, IntKind.bits] at h
  omega
theorem wfu8 {x : Int} (h : (Lit.int .u8 x).wf = true) : 0 ≤ x ∧ x ≤ 255 := by
  simp [Lit.wf, IntKind.min, IntKind.max, IntKind.signed, IntKind.bits] at h
  omega
theorem wsucc {n : Nat} (h : n ≤ 4611686018427387904) : wrap64 ((n : Int) + 1) = ((n + 1 : Nat) : Int) := by
  rw [w64 (by omega) (by omega)]
  rfl
theorem wadd {a b : Nat} (h : a + b ≤ 4611686018427387904) : wrap64 ((a : Int) + (b : Int)) = ((a + b : Nat) : Int) := by
  rw [w64 (by omega) (by omega)]
  rfl
theorem wnat {n : Nat} (h : n ≤ 4611686018427387904) : wrap64 (n : Int) = (n : Int) := w64 (by omega) (by omega)
theorem Ev.some_bind {α β : Type} {a : Option α} {x : α} (h : a = some x) {f : Nat → α → Option β} {r : β} (k : Ev (fun n => f n x) r) : Ev (fun n => a.bind (f n)) r := by
  subst h
  exact k
theorem Ev.pos {α : Type} {p : Prop} [Decidable p] (h : p) {f g : Nat → Option α} {r : α} (k : Ev f r) : Ev (fun n => if p then f n else g n) r :=
  Ev.congr (fun _ => if_pos h) k
theorem Ev.neg {α : Type} {p : Prop} [Decidable p] (h : ¬ p) {f g : Nat → Option α} {r : α} (k : Ev g r) : Ev (fun n => if p then f n else g n) r :=
  Ev.congr (fun _ => if_neg h) k
theorem tmod_nat {x : Int} (h0 : 0 ≤ x) (N : Nat) : ∃ c : Nat, Int.tmod x ((N + 1 : Nat) : Int) = (c : Int) ∧ c ≤ N := by
  obtain ⟨c, hc⟩ := Int.eq_ofNat_of_zero_le (Int.tmod_nonneg ((N + 1 : Nat) : Int) h0)
  have hlt := Int.tmod_lt_of_pos x (show (0 : Int) < ((N + 1 : Nat) : Int) by omega)
  rw [hc] at hlt
  exact ⟨c, hc, by omega⟩

theorem strOfNums_size (xs : List Int) : (strOfNums xs).size = xs.length := by simp [strOfNums, ByteArray.size]
theorem str_ext {a b : ByteArray} (h : a.data.toList = b.data.toList) : a = b := by
  apply ByteArray.ext
  exact Array.toList_inj.1 h
theorem str_app (a b : ByteArray) : (a ++ b).data.toList = a.data.toList ++ b.data.toList := by simp [ByteArray.data_append]
theorem str_cut (s : ByteArray) (a b : Nat) : (s.extract a b).data.toList = (s.data.toList.drop a).take (b - a) := by
  obtain ⟨⟨l⟩⟩ := s
  simp [ByteArray.data_extract, List.extract_eq_take_drop]
theorem str_len (s : ByteArray) : s.data.toList.length = s.size := rfl
theorem str_toList {a b : ByteArray} : a.toList = b.toList ↔ a = b := by
  rw [ByteArray.toList_eq, ByteArray.toList_eq]
  exact ⟨str_ext, fun h => by rw [h]⟩
theorem str_split (s : ByteArray) (n : Nat) (h : n ≤ s.size) : s.extract 0 n ++ s.extract n s.size = s := by
  apply str_ext
  rw [str_app, str_cut, str_cut, List.drop_zero, Nat.sub_zero, List.take_of_length_le (l := s.data.toList.drop n) (by simp [str_len]), List.take_append_drop]
theorem str_app_inj {a b c : ByteArray} (h : a ++ b = a ++ c) : b = c := by
  have := congrArg (fun s : ByteArray => s.data.toList) h
  simp only [str_app] at this
  exact str_ext (List.append_cancel_left this)
theorem cut_size (s : ByteArray) {n : Nat} (h : n ≤ s.size) : (s.extract 0 n).size = n := by
  rw [ByteArray.size_extract]
  omega

/-! ### decimal numerals -/
def numT (neg : Bool) (l : List UInt8) : ByteArray := ⟨((if neg = true then [45] else []) ++ l).toArray⟩
theorem dec_step (m : Nat) (l : List UInt8) : Lib.decDigits m ++ l = (if m < 10 then [] else Lib.decDigits (m / 10)) ++ (UInt8.ofNat (48 + m % 10) :: l) := by
  by_cases h : m < 10
  · rw [if_pos h, Lib.decDigits, dif_pos h, Nat.mod_eq_of_lt h]
    rfl
  · rw [if_neg h, Lib.decDigits, dif_neg h, List.append_assoc]
    rfl
theorem fig_eq {d : Nat} (h : d < 10) : spec_l01Figure.f (d : Int) = some ((48 + d : Nat) : Int) := by
  unfold spec_l01Figure.f
  rw [if_pos (by omega), w64 (by omega) (by omega)]
  congr 1
  omega
theorem one_char (c : Nat) (s : ByteArray) : strOfNums [((c : Nat) : Int)] ++ s = ⟨(UInt8.ofNat c :: s.data.toList).toArray⟩ := by
  apply str_ext
  rw [str_app]
  rfl
theorem dec10 (x : Int) {m : Nat} (h : x.natAbs = m) : (x = (m : Int) ∧ Int.tdiv x 10 = ((m / 10 : Nat) : Int) ∧ Int.tmod x 10 = ((m % 10 : Nat) : Int)) ∨ (x = -(m : Int) ∧ Int.tdiv x 10 = -((m / 10 : Nat) : Int) ∧ Int.tmod x 10 = -((m % 10 : Nat) : Int)) := by
  rcases Int.natAbs_eq x with e | e
  · rw [h] at e
    subst e
    exact .inl ⟨rfl, rfl, rfl⟩
  · rw [h] at e
    subst e
    refine .inr ⟨rfl, ?_, ?_⟩
    · rw [Int.neg_tdiv]
      rfl
    · rw [Int.neg_tmod]
      rfl
theorem one_size (c : Int) (s : ByteArray) : (strOfNums [c] ++ s).size = s.size + 1 := by
  rw [ByteArray.size_append, strOfNums_size, List.length_singleton, Nat.add_comm]
theorem one_fits (c : Int) {s : ByteArray} (h : s.size ≤ 1000) : (strOfNums [c]).size + s.size ≤ 9223372036854775807 := by
  rw [strOfNums_size, List.length_singleton]
  omega
theorem dec_round (neg : Bool) {m : Nat} {x : Int} {s : ByteArray} (hx : x.natAbs = m) (h0 : m ≠ 0) (hM : m ≤ 9223372036854775808) (hs : s.size ≤ 1000) (k : Nat) :
    spec_Decimal.l0 (k + 1) x neg s = spec_Decimal.l0 k (Int.tdiv x 10) neg (strOfNums [((48 + m % 10 : Nat) : Int)] ++ s) := by
  simp only [spec_Decimal.l0]
  rw [if_neg (by omega)]
  rcases dec10 x hx with ⟨e, hq, hd⟩ | ⟨e, hq, hd⟩
  · rw [hq, hd, w64 (x := ((m / 10 : Nat) : Int)) (by omega) (by omega), if_neg (by omega), fig_eq (by omega), Option.bind_some, Option.bind_some, if_pos (one_fits _ hs)]
  · rw [hq, hd, w64 (x := -((m / 10 : Nat) : Int)) (by omega) (by omega)]
    by_cases c : -((m % 10 : Nat) : Int) < 0
    · rw [if_pos c, Int.neg_neg, w64 (x := ((m % 10 : Nat) : Int)) (by omega) (by omega), fig_eq (by omega), Option.bind_some, Option.bind_some, if_pos (one_fits _ hs)]
    · have c2 : m % 10 = 0 := by omega
      rw [if_neg c, c2, show -((0 : Nat) : Int) = ((0 : Nat) : Int) from rfl, fig_eq (by omega), Option.bind_some, Option.bind_some, if_pos (one_fits _ hs)]
theorem dec_end (neg : Bool) (s : ByteArray) (hs : s.size ≤ 1000) : Ev (fun k => spec_Decimal.l0 k 0 neg s) (numT neg s.data.toList) := by
  refine Ev.step (f := fun _ => some (numT neg s.data.toList)) (fun k => ?_) (Ev.now _)
  simp only [spec_Decimal.l0, if_true]
  cases neg with
  | true =>
    rw [if_pos rfl, if_pos (by omega)]
    congr 1
  | false =>
    rw [if_neg (by simp)]
    rfl
theorem dec_loop (neg : Bool) : ∀ (d m : Nat) (x : Int) (s : ByteArray), x.natAbs = m → m < 10 ^ (d + 1) → m ≠ 0 → m ≤ 9223372036854775808 → s.size + d ≤ 100 → Ev (fun k => spec_Decimal.l0 k x neg s) (numT neg (Lib.decDigits m ++ s.data.toList)) := by
  intro d
  induction d with
  | zero =>
    intro m x s hx hm h0 hM hs
    have hm' : m < 10 := by simpa using hm
    have z := dec_end neg (strOfNums [((48 + m % 10 : Nat) : Int)] ++ s) (by rw [one_size]; omega)
    rw [dec_step, if_pos hm', List.nil_append]
    have hq : Int.tdiv x 10 = 0 := by rcases dec10 x hx with ⟨_, hq, _⟩ | ⟨_, hq, _⟩ <;> rw [hq] <;> omega
    refine Ev.step (fun k => dec_round neg hx h0 hM (by omega) k) ?_
    rw [hq]
    rw [one_char] at z ⊢
    exact z
  | succ d ih =>
    intro m x s hx hm h0 hM hs
    have hsz := one_size ((48 + m % 10 : Nat) : Int) s
    have hp : 10 ^ (d + 1 + 1) = 10 * 10 ^ (d + 1) := by rw [Nat.pow_succ, Nat.mul_comm]
    have hn : (Int.tdiv x 10).natAbs = m / 10 := by rcases dec10 x hx with ⟨_, hq, _⟩ | ⟨_, hq, _⟩ <;> rw [hq] <;> omega
    refine Ev.step (fun k => dec_round neg hx h0 hM (by omega) k) ?_
    rw [dec_step]
    by_cases c : m < 10
    · rw [if_pos c, List.nil_append, show Int.tdiv x 10 = 0 by omega]
      have z := dec_end neg (strOfNums [((48 + m % 10 : Nat) : Int)] ++ s) (by omega)
      rw [one_char] at z ⊢
      exact z
    · rw [if_neg c]
      have z := ih (m / 10) (Int.tdiv x 10) (strOfNums [((48 + m % 10 : Nat) : Int)] ++ s) hn (by omega) (by omega) (by omega) (by omega)
      rw [one_char] at z ⊢
      exact z
def decT (n : Int) : ByteArray := ⟨(Lib.itoa n).toArray⟩
theorem spec_Decimal_ev {n : Int} (h0 : -9223372036854775808 ≤ n) (h1 : n ≤ 9223372036854775807) : Ev (fun k => spec_Decimal.f k n) (decT n) := by
  unfold spec_Decimal.f
  by_cases c : n = 0
  · subst c
    refine Ev.pos rfl ?_
    rw [show decT 0 = (⟨#[48]⟩ : ByteArray) by unfold decT Lib.itoa; rw [if_neg (by omega), show ((0 : Int)).toNat = 0 from rfl, Lib.decDigits, dif_pos (by omega)]; rfl]
    exact Ev.now _
  · refine Ev.neg c ?_
    have z := dec_loop (decide (n < 0)) 19 n.natAbs n ⟨#[]⟩ rfl (by omega) (by omega) (by omega) (by decide)
    have e : numT (decide (n < 0)) (Lib.decDigits n.natAbs ++ (⟨#[]⟩ : ByteArray).data.toList) = decT n := by
      unfold numT decT Lib.itoa
      by_cases hn : n < 0
      · rw [if_pos (decide_eq_true hn), if_pos hn, List.append_nil]
        rfl
      · rw [if_neg (by simpa using hn), if_neg hn, List.append_nil, List.nil_append, show n.natAbs = n.toNat by omega]
    rw [e] at z
    exact z

theorem FnExactDecimal : laws_FnExactDecimal.Pure := by
  intro n hn
  obtain ⟨h0, h1⟩ := wf64 hn
  refine Ev.rounds ?_
  unfold laws_FnExactDecimal.f
  have e : impl_Decimal.f n = some (decT n) := by
    unfold impl_Decimal.f
    exact if_pos ⟨h0, h1⟩
  exact Ev.bind (spec_Decimal_ev h0 h1) (Ev.some_bind e (Ev.pos rfl (Ev.now _)))


end Go.Proofs.YtfagleffamhimaaDoor.Pure
