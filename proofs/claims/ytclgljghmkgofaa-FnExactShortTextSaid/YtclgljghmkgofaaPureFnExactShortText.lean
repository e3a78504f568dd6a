/- The program's ShortText and the reference's ShortText return the same, for every text. -/
import Derived.Test.YtclgljghmkgofaaPFnExactShortTextx1
set_option linter.unusedVariables false
set_option linter.unusedSimpArgs false
namespace Go.Proofs.Ytclgljghmkgofaa.Pure
open Go.RowKit Go.Proofs.Ytclgljghmkgofaa.PFnExactShortText Go.Proofs.YtclgljghmkgofaaW.PrintWords Go.Proofs.YtclgljghmkgofaaW.PrintLast

/-! ### small words -/
theorem w64 {x : Int} (h0 : -9223372036854775808 ≤ x) (h1 : x ≤ 9223372036854775807) : wrap64 x = x := by
  unfold wrap64
  omega
theorem wf64 {x : Int} (h : (Lit.int .i64 x).wf = true) : -9223372036854775808 ≤ x ∧ x ≤ 9223372036854775807 := by
  simp [Lit.wf, IntKind.min, IntKind.max, IntKind.signed, IntKind.bits] at h
  omega
theorem wfu32 {x : Int} (h : (Lit.int .u32 x).wf = true) : 0 ≤ x ∧ x ≤ 4294967295 := by
  simp [Lit.wf, IntKind.min, IntKind.max, IntKind.signed, IntKind.bits] at h
  omega
theorem wfu8 {x : Int} (h : (Lit.int .u8 x).wf = true) : 0 ≤ x ∧ x ≤ 255 := by
  simp [Lit.wf, IntKind.min, IntKind.max, IntKind.signed, IntKind.bits] at h
  omega

theorem strOfNums_size (xs : List Int) : (strOfNums xs).size = xs.length := by simp [strOfNums, ByteArray.size]
theorem str_ext {a b : ByteArray} (h : a.data.toList = b.data.toList) : a = b := by
  apply ByteArray.ext
  exact Array.toList_inj.1 h
theorem str_app (a b : ByteArray) : (a ++ b).data.toList = a.data.toList ++ b.data.toList := by simp [ByteArray.data_append]
theorem str_cut (s : ByteArray) (a b : Nat) : (s.extract a b).data.toList = (s.data.toList.drop a).take (b - a) := by
  obtain ⟨⟨l⟩⟩ := s
  simp [ByteArray.data_extract, List.extract_eq_take_drop]
theorem str_len (s : ByteArray) : s.data.toList.length = s.size := rfl
theorem str_toList {a b : ByteArray} : a.toList = b.toList ↔ a = b := by
  rw [ByteArray.toList_eq, ByteArray.toList_eq]
  exact ⟨str_ext, fun h => by rw [h]⟩
theorem str_split (s : ByteArray) (n : Nat) (h : n ≤ s.size) : s.extract 0 n ++ s.extract n s.size = s := by
  apply str_ext
  rw [str_app, str_cut, str_cut, List.drop_zero, Nat.sub_zero, List.take_of_length_le (l := s.data.toList.drop n) (by simp [str_len]), List.take_append_drop]
theorem str_app_inj {a b c : ByteArray} (h : a ++ b = a ++ c) : b = c := by
  have := congrArg (fun s : ByteArray => s.data.toList) h
  simp only [str_app] at this
  exact str_ext (List.append_cancel_left this)
theorem cut_size (s : ByteArray) {n : Nat} (h : n ≤ s.size) : (s.extract 0 n).size = n := by
  rw [ByteArray.size_extract]
  omega

theorem impl_within_eq (a l h : Int) : impl_within.f a l h = some (decide (l ≤ a ∧ a ≤ h)) := by
  unfold impl_within.f
  by_cases h1 : l ≤ a
  · rw [if_pos h1]; simp [h1]
  · rw [if_neg h1]; simp [h1]

/-! ### numbers in bytes -/
/-- The bytes of a number below 128 ^ (f + 1). -/
def varF : Nat → Nat → List Int
  | 0, n => [(n : Int)]
  | f + 1, n => if 127 < n then ((n % 128 + 128 : Nat) : Int) :: varF f (n / 128) else [(n : Int)]
theorem varF_length (f : Nat) : ∀ n, 1 ≤ (varF f n).length ∧ (varF f n).length ≤ f + 1 := by
  induction f with
  | zero => intro n; simp [varF]
  | succ f ih =>
    intro n
    unfold varF
    have := ih (n / 128)
    split
    · simp; omega
    · simp
/-- The text of a number. -/
def varS (n : Nat) : ByteArray := strOfNums (varF 4 n)
theorem varS_size (n : Nat) : 1 ≤ (varS n).size ∧ (varS n).size ≤ 5 := by
  unfold varS
  rw [strOfNums_size]
  exact varF_length 4 n
theorem var_byte {n : Nat} (h : 127 < n) (hn : n < 1000000000000) : (wrap64 ((Int.tmod (n : Int) 128) + 128)) % 256 = ((n % 128 + 128 : Nat) : Int) := by
  rw [Int.tmod_eq_emod_of_nonneg (by omega), w64 (by omega) (by omega)]
  omega
theorem var_next {n : Nat} (hn : n < 1000000000000) : wrap64 (Int.tdiv (n : Int) 128) = ((n / 128 : Nat) : Int) := by
  rw [Int.tdiv_eq_ediv_of_nonneg (by omega), w64 (by omega) (by omega)]
  rfl
def varTextV (n : Int) : ByteArray × Bool := if 0 ≤ n ∧ n ≤ 1000000000 then (varS n.toNat, true) else ((⟨#[]⟩ : ByteArray), false)

theorem spec_l01Var_l0 (f : Nat) : ∀ (n : Nat) (acc : List Int), n < 128 ^ (f + 1) → f ≤ 4 → acc.length + f < 1000 → Ev (fun k => spec_l01Var.l0 k (n : Int) acc) (strOfNums (acc ++ varF f n)) := by
  induction f with
  | zero =>
    intro n acc hn hf ha
    refine Ev.step (f := fun _ => some (strOfNums (acc ++ [(n : Int)]))) (fun k => ?_) (Ev.now _)
    simp only [spec_l01Var.l0]
    rw [if_neg (by omega), if_pos (by omega), Int.emod_eq_of_lt (by omega) (by omega)]
  | succ f ih =>
    intro n acc hn hf ha
    have h5 : 128 ^ (f + 1 + 1) ≤ 128 ^ 5 := Nat.pow_le_pow_right (by omega) (by omega)
    have hp : 128 ^ (f + 1 + 1) = 128 * 128 ^ (f + 1) := by rw [Nat.pow_succ]; omega
    unfold varF
    by_cases h : 127 < n
    · rw [if_pos h]
      refine Ev.step (f := fun k => spec_l01Var.l0 k ((n / 128 : Nat) : Int) (acc ++ [((n % 128 + 128 : Nat) : Int)])) (fun k => ?_) ?_
      · simp only [spec_l01Var.l0]
        rw [if_pos (by omega), if_pos (by omega), var_byte h (by omega), var_next (by omega)]
      · have := ih (n / 128) (acc ++ [((n % 128 + 128 : Nat) : Int)]) (by omega) (by omega) (by simp; omega)
        rw [List.append_assoc, List.singleton_append] at this
        exact this
    · rw [if_neg h]
      refine Ev.step (f := fun _ => some (strOfNums (acc ++ [(n : Int)]))) (fun k => ?_) (Ev.now _)
      simp only [spec_l01Var.l0]
      rw [if_neg (by omega), if_pos (by omega), Int.emod_eq_of_lt (by omega) (by omega)]
theorem spec_l01Var_ev {n : Nat} (h : n < 128 ^ 5) : Ev (fun k => spec_l01Var.f k (n : Int)) (varS n) := spec_l01Var_l0 4 n [] h (by omega) (by simp)

theorem impl_VarText_l0 (f : Nat) : ∀ (n : Nat) (acc : List Int), n < 128 ^ (f + 1) → f ≤ 4 → acc.length + f < 1000 → Ev (fun k => impl_VarText.l0 k (n : Int) acc) (strOfNums (acc ++ varF f n), true) := by
  induction f with
  | zero =>
    intro n acc hn hf ha
    refine Ev.step (f := fun _ => some (strOfNums (acc ++ [(n : Int)]), true)) (fun k => ?_) (Ev.now _)
    simp only [impl_VarText.l0]
    rw [if_neg (by omega), if_pos (by omega), Int.emod_eq_of_lt (by omega) (by omega)]
  | succ f ih =>
    intro n acc hn hf ha
    have h5 : 128 ^ (f + 1 + 1) ≤ 128 ^ 5 := Nat.pow_le_pow_right (by omega) (by omega)
    have hp : 128 ^ (f + 1 + 1) = 128 * 128 ^ (f + 1) := by rw [Nat.pow_succ]; omega
    unfold varF
    by_cases h : 127 < n
    · rw [if_pos h]
      refine Ev.step (f := fun k => impl_VarText.l0 k ((n / 128 : Nat) : Int) (acc ++ [((n % 128 + 128 : Nat) : Int)])) (fun k => ?_) ?_
      · simp only [impl_VarText.l0]
        rw [if_pos (by omega), if_pos (by omega), var_byte h (by omega), var_next (by omega)]
      · have := ih (n / 128) (acc ++ [((n % 128 + 128 : Nat) : Int)]) (by omega) (by omega) (by simp; omega)
        rw [List.append_assoc, List.singleton_append] at this
        exact this
    · rw [if_neg h]
      refine Ev.step (f := fun _ => some (strOfNums (acc ++ [(n : Int)]), true)) (fun k => ?_) (Ev.now _)
      simp only [impl_VarText.l0]
      rw [if_neg (by omega), if_pos (by omega), Int.emod_eq_of_lt (by omega) (by omega)]
theorem impl_VarText_ev (n : Int) : Ev (fun k => impl_VarText.f k n) (varTextV n) := by
  unfold varTextV impl_VarText.f
  simp only [impl_within_eq, Option.bind_some, decide_eq_true_eq]
  by_cases h : 0 ≤ n ∧ n ≤ 1000000000
  · simp only [if_pos h]
    obtain ⟨m, rfl⟩ := Int.eq_ofNat_of_zero_le h.1
    exact impl_VarText_l0 4 m [] (by omega) (by omega) (by simp)
  · simp only [if_neg h]
    exact Ev.now _

def shortV (s : ByteArray) : ByteArray × Bool := if (s.size : Int) > 20000 then ((⟨#[]⟩ : ByteArray), false) else (varS s.size ++ s, true)

theorem spec_ShortText_ev (s : ByteArray) : Ev (fun k => spec_ShortText.f k s) (shortV s) := by
  unfold shortV spec_ShortText.f
  by_cases h : (s.size : Int) > 20000
  · simp only [if_pos h]
    exact Ev.now _
  · simp only [if_neg h]
    refine Ev.bind (spec_l01Var_ev (by omega)) ?_
    have := varS_size s.size
    simp only [if_pos (show (varS s.size).size + s.size ≤ 9223372036854775807 by omega)]
    exact Ev.now _

theorem impl_ShortText_ev (s : ByteArray) : Ev (fun k => impl_ShortText.f k s) (shortV s) := by
  unfold shortV impl_ShortText.f
  by_cases h : (s.size : Int) > 20000
  · simp only [if_pos h]
    exact Ev.now _
  · simp only [if_neg h]
    refine Ev.bind (impl_VarText_ev (s.size : Int)) ?_
    have := varS_size s.size
    have e : varTextV (s.size : Int) = (varS s.size, true) := by unfold varTextV; rw [if_pos (by omega)]; rfl
    simp only [e, if_pos (show (varS s.size).size + s.size ≤ 9223372036854775807 by omega)]
    exact Ev.now _

theorem FnExactShortText : laws_FnExactShortText.Pure := by
  intro s hs
  refine Ev.rounds ?_
  unfold laws_FnExactShortText.f
  by_cases h : (s.size : Int) > 1048576
  · simp only [if_pos h]
    exact Ev.now _
  · simp only [if_neg h]
    refine Ev.bind (spec_ShortText_ev s) (Ev.bind (impl_ShortText_ev s) ?_)
    simp only [if_true, bne_self_eq_false, Bool.false_eq_true, if_false]
    exact Ev.now _


end Go.Proofs.Ytclgljghmkgofaa.Pure
