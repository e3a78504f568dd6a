/- The program's Unframe and the reference's Unframe return the same records and the same place, for every text, in memory of their own. -/
import Derived.Test.YtilhajijfbpcjaaPFnExactUnframex5
set_option linter.unusedVariables false
set_option linter.unusedSimpArgs false
namespace Go.Proofs.Ytilhajijfbpcjaa.Pure
open Go.RowKit Go.Proofs.Ytilhajijfbpcjaa.PFnExactUnframe Go.Proofs.YtilhajijfbpcjaaW.PrintWords Go.Proofs.YtilhajijfbpcjaaW.PrintLast

/-! ### small words -/
theorem w64 {x : Int} (h0 : -9223372036854775808 ≤ x) (h1 : x ≤ 9223372036854775807) : wrap64 x = x := by
  unfold wrap64
  omega
theorem wf64 {x : Int} (h : (Lit.int .i64 x).wf = true) : -9223372036854775808 ≤ x ∧ x ≤ 9223372036854775807 := by
  simp [Lit.wf, IntKind.min, IntKind.max, IntKind.signed, IntKind.bits] at h
  omega
theorem wfu32 {x : Int} (h : (Lit.int .u32 x).wf = true) : 0 ≤ x ∧ x ≤ 4294967295 := by
  simp [Lit.wf, IntKind.min, IntKind.max, IntKind.signed, IntKind.bits] at h
  omega
theorem wfu8 {x : Int} (h : (Lit.int .u8 x).wf = true) : 0 ≤ x ∧ x ≤ 255 := by
  simp [Lit.wf, IntKind.min, IntKind.max, IntKind.signed, IntKind.bits] at h
  omega
theorem wsucc {n : Nat} (h : n ≤ 4611686018427387904) : wrap64 ((n : Int) + 1) = ((n + 1 : Nat) : Int) := by
  rw [w64 (by omega) (by omega)]
  rfl
theorem wadd {a b : Nat} (h : a + b ≤ 4611686018427387904) : wrap64 ((a : Int) + (b : Int)) = ((a + b : Nat) : Int) := by
  rw [w64 (by omega) (by omega)]
  rfl
theorem wnat {n : Nat} (h : n ≤ 4611686018427387904) : wrap64 (n : Int) = (n : Int) := w64 (by omega) (by omega)

theorem strOfNums_size (xs : List Int) : (strOfNums xs).size = xs.length := by simp [strOfNums, ByteArray.size]
theorem str_ext {a b : ByteArray} (h : a.data.toList = b.data.toList) : a = b := by
  apply ByteArray.ext
  exact Array.toList_inj.1 h
theorem str_app (a b : ByteArray) : (a ++ b).data.toList = a.data.toList ++ b.data.toList := by simp [ByteArray.data_append]
theorem str_cut (s : ByteArray) (a b : Nat) : (s.extract a b).data.toList = (s.data.toList.drop a).take (b - a) := by
  obtain ⟨⟨l⟩⟩ := s
  simp [ByteArray.data_extract, List.extract_eq_take_drop]
theorem str_len (s : ByteArray) : s.data.toList.length = s.size := rfl
theorem str_toList {a b : ByteArray} : a.toList = b.toList ↔ a = b := by
  rw [ByteArray.toList_eq, ByteArray.toList_eq]
  exact ⟨str_ext, fun h => by rw [h]⟩
theorem str_split (s : ByteArray) (n : Nat) (h : n ≤ s.size) : s.extract 0 n ++ s.extract n s.size = s := by
  apply str_ext
  rw [str_app, str_cut, str_cut, List.drop_zero, Nat.sub_zero, List.take_of_length_le (l := s.data.toList.drop n) (by simp [str_len]), List.take_append_drop]
theorem str_app_inj {a b c : ByteArray} (h : a ++ b = a ++ c) : b = c := by
  have := congrArg (fun s : ByteArray => s.data.toList) h
  simp only [str_app] at this
  exact str_ext (List.append_cancel_left this)
theorem cut_size (s : ByteArray) {n : Nat} (h : n ≤ s.size) : (s.extract 0 n).size = n := by
  rw [ByteArray.size_extract]
  omega

theorem spec_l01In_eq (a l h : Int) : spec_l01In.f a l h = some (decide (l ≤ a ∧ a ≤ h)) := by
  unfold spec_l01In.f
  by_cases h1 : l ≤ a
  · rw [if_pos h1]; simp [h1]
  · rw [if_neg h1]; simp [h1]

theorem impl_within_eq (a l h : Int) : impl_within.f a l h = some (decide (l ≤ a ∧ a ≤ h)) := by
  unfold impl_within.f
  by_cases h1 : l ≤ a
  · rw [if_pos h1]; simp [h1]
  · rw [if_neg h1]; simp [h1]

/-! ### sums of 32 bits, over natural numbers -/
def half (s : Nat) : Nat := if s % 2 = 1 then (s / 2) ^^^ 3558460437 else s / 2
def halves : Nat → Nat → Nat
  | 0, s => s
  | n + 1, s => halves n (half s)
def sumN (s : Nat) : List UInt8 → Nat
  | [] => s
  | b :: bs => sumN (halves 8 (s ^^^ b.toNat)) bs

theorem bits_xor32 {a b : Nat} (ha : a < 2 ^ 32) (hb : b < 2 ^ 32) : Go.bits .xor .u32 (a : Int) (b : Int) = ((a ^^^ b : Nat) : Int) := by
  have hx : a ^^^ b < 2 ^ 32 := Nat.xor_lt_two_pow ha hb
  have e : (BitVec.ofNat 32 a ^^^ BitVec.ofNat 32 b).toNat = a ^^^ b := by rw [BitVec.toNat_xor, BitVec.toNat_ofNat, BitVec.toNat_ofNat, Nat.mod_eq_of_lt ha, Nat.mod_eq_of_lt hb]
  show IntKind.u32.wrap (((BitVec.ofInt 32 (a : Int)) ^^^ (BitVec.ofInt 32 (b : Int))).toNat : Int) = _
  rw [BitVec.ofInt_natCast, BitVec.ofInt_natCast, e, IntKind.wrap_u32]
  omega
theorem half_lt {s : Nat} (h : s < 2 ^ 32) : half s < 2 ^ 32 := by
  unfold half
  split
  · exact Nat.xor_lt_two_pow (by omega) (by omega)
  · omega
theorem halves_lt (n : Nat) : ∀ {s : Nat}, s < 2 ^ 32 → halves n s < 2 ^ 32 := by
  induction n with
  | zero => intro s h; exact h
  | succ n ih => intro s h; exact ih (half_lt h)
theorem byte_lt (b : UInt8) : b.toNat < 2 ^ 32 := by have := b.toNat_lt; omega
theorem sumN_lt (l : List UInt8) : ∀ {s : Nat}, s < 2 ^ 32 → sumN s l < 2 ^ 32 := by
  induction l with
  | nil => intro s h; exact h
  | cons b l ih => intro s h; exact ih (halves_lt 8 (Nat.xor_lt_two_pow h (byte_lt b)))
theorem sumN_append (l m : List UInt8) : ∀ s, sumN s (l ++ m) = sumN (sumN s l) m := by
  induction l with
  | nil => intro s; rfl
  | cons b l ih => intro s; exact ih _
theorem bt_nat (s : ByteArray) {i : Nat} (h : i < s.size) : bt s (i : Int) = ((s.data.toList[i]'(by simpa using h)).toNat : Int) := by
  unfold bt
  rw [dif_pos (by simpa using h)]
  rfl
theorem drop_cons (s : ByteArray) {i : Nat} (h : i < s.size) : s.data.toList.drop i = (s.data.toList[i]'(by simpa using h)) :: s.data.toList.drop (i + 1) := List.drop_eq_getElem_cons (by simpa using h)

theorem half_int {s : Nat} (hs : s < 2 ^ 32) : (if Int.tmod (s : Int) 2 = 1 then Go.bits .xor .u32 ((Int.tdiv (s : Int) 2) % 4294967296) 3558460437 else (Int.tdiv (s : Int) 2) % 4294967296) = ((half s : Nat) : Int) := by
  have h1 : Int.tmod (s : Int) 2 = ((s % 2 : Nat) : Int) := by rw [Int.tmod_eq_emod_of_nonneg (by omega)]; rfl
  have h2 : (Int.tdiv (s : Int) 2) % 4294967296 = ((s / 2 : Nat) : Int) := by rw [Int.tdiv_eq_ediv_of_nonneg (by omega)]; omega
  rw [h1, h2]
  unfold half
  by_cases h : s % 2 = 1
  · rw [if_pos (by omega), if_pos h]
    exact bits_xor32 (by omega) (b := 3558460437) (by omega)
  · rw [if_neg (by omega), if_neg h]

theorem spec_SumMore_l1 (x : ByteArray) (i r : Int) (d : Nat) : ∀ (s : Nat), d ≤ 8 → s < 2 ^ 32 → Ev (fun k => spec_SumMore.l0 k ((halves d s : Nat) : Int) x (wrap64 (i + 1))) r →
    Ev (fun k => spec_SumMore.l1 k (s : Int) x i ((8 - d : Nat) : Int)) r := by
  induction d with
  | zero =>
    intro s hd hs h
    exact Ev.step (fun k => by simp only [spec_SumMore.l1]; rw [if_neg (by omega)]; rfl) h
  | succ d ih =>
    intro s hd hs h
    refine Ev.step (f := fun k => spec_SumMore.l1 k ((half s : Nat) : Int) x i ((8 - d : Nat) : Int)) (fun k => ?_) (ih _ (by omega) (half_lt hs) h)
    simp only [spec_SumMore.l1]
    rw [if_pos (by omega), w64 (by omega) (by omega), ← half_int hs, show ((8 - (d + 1) : Nat) : Int) + 1 = ((8 - d : Nat) : Int) by omega]
    split <;> rfl
theorem spec_SumMore_l0 (x : ByteArray) (hx : x.size ≤ 140737488351232) (d : Nat) : ∀ (s i : Nat), i ≤ x.size → x.size - i = d → s < 2 ^ 32 →
    Ev (fun k => spec_SumMore.l0 k (s : Int) x (i : Int)) ((sumN s (x.data.toList.drop i) : Nat) : Int) := by
  induction d with
  | zero =>
    intro s i hi hd hs
    have hn : x.data.toList.drop i = [] := List.drop_eq_nil_of_le (by simp; omega)
    rw [hn]
    exact Ev.step (f := fun _ => some (s : Int)) (fun k => by simp only [spec_SumMore.l0]; rw [if_neg (by omega)]) (Ev.now _)
  | succ d ih =>
    intro s i hi hd hs
    have hlt : i < x.size := by omega
    have hb := byte_lt (x.data.toList[i]'(by simpa using hlt))
    rw [drop_cons x hlt]
    refine Ev.step (f := fun k => spec_SumMore.l1 k ((s ^^^ (x.data.toList[i]'(by simpa using hlt)).toNat : Nat) : Int) x (i : Int) ((8 - 8 : Nat) : Int)) (fun k => ?_) (spec_SumMore_l1 x i _ 8 _ (Nat.le_refl _) (Nat.xor_lt_two_pow hs hb) ?_)
    · simp only [spec_SumMore.l0]
      rw [if_pos (by omega), if_pos (by omega), bt_nat x hlt, ← bits_xor32 hs hb, Int.emod_eq_of_lt (by omega) (by omega)]
      rfl
    · rw [w64 (by omega) (by omega)]
      exact ih _ (i + 1) (by omega) (by omega) (halves_lt 8 (Nat.xor_lt_two_pow hs hb))
theorem spec_SumMore_ev (x : ByteArray) (hx : x.size ≤ 140737488351232) {s : Nat} (hs : s < 2 ^ 32) : Ev (fun k => spec_SumMore.f k (s : Int) x) ((sumN s x.data.toList : Nat) : Int) := by
  have h := spec_SumMore_l0 x hx x.size s 0 (by omega) (by omega) hs
  rw [List.drop_zero] at h
  exact h

theorem impl_SumMore_l1 (x : ByteArray) (i r : Int) (d : Nat) : ∀ (s : Nat), d ≤ 8 → s < 2 ^ 32 → Ev (fun k => impl_SumMore.l0 k ((halves d s : Nat) : Int) x (wrap64 (i + 1))) r →
    Ev (fun k => impl_SumMore.l1 k (s : Int) x i ((8 - d : Nat) : Int)) r := by
  induction d with
  | zero =>
    intro s hd hs h
    exact Ev.step (fun k => by simp only [impl_SumMore.l1]; rw [if_neg (by omega)]; rfl) h
  | succ d ih =>
    intro s hd hs h
    refine Ev.step (f := fun k => impl_SumMore.l1 k ((half s : Nat) : Int) x i ((8 - d : Nat) : Int)) (fun k => ?_) (ih _ (by omega) (half_lt hs) h)
    simp only [impl_SumMore.l1]
    rw [if_pos (by omega), w64 (by omega) (by omega), ← half_int hs, show ((8 - (d + 1) : Nat) : Int) + 1 = ((8 - d : Nat) : Int) by omega]
    split <;> rfl
theorem impl_SumMore_l0 (x : ByteArray) (hx : x.size ≤ 140737488351232) (d : Nat) : ∀ (s i : Nat), i ≤ x.size → x.size - i = d → s < 2 ^ 32 →
    Ev (fun k => impl_SumMore.l0 k (s : Int) x (i : Int)) ((sumN s (x.data.toList.drop i) : Nat) : Int) := by
  induction d with
  | zero =>
    intro s i hi hd hs
    have hn : x.data.toList.drop i = [] := List.drop_eq_nil_of_le (by simp; omega)
    rw [hn]
    exact Ev.step (f := fun _ => some (s : Int)) (fun k => by simp only [impl_SumMore.l0]; rw [if_neg (by omega)]) (Ev.now _)
  | succ d ih =>
    intro s i hi hd hs
    have hlt : i < x.size := by omega
    have hb := byte_lt (x.data.toList[i]'(by simpa using hlt))
    rw [drop_cons x hlt]
    refine Ev.step (f := fun k => impl_SumMore.l1 k ((s ^^^ (x.data.toList[i]'(by simpa using hlt)).toNat : Nat) : Int) x (i : Int) ((8 - 8 : Nat) : Int)) (fun k => ?_) (impl_SumMore_l1 x i _ 8 _ (Nat.le_refl _) (Nat.xor_lt_two_pow hs hb) ?_)
    · simp only [impl_SumMore.l0]
      rw [if_pos (by omega), if_pos (by omega), bt_nat x hlt, ← bits_xor32 hs hb, Int.emod_eq_of_lt (by omega) (by omega)]
      rfl
    · rw [w64 (by omega) (by omega)]
      exact ih _ (i + 1) (by omega) (by omega) (halves_lt 8 (Nat.xor_lt_two_pow hs hb))
theorem impl_SumMore_ev (x : ByteArray) (hx : x.size ≤ 140737488351232) {s : Nat} (hs : s < 2 ^ 32) : Ev (fun k => impl_SumMore.f k (s : Int) x) ((sumN s x.data.toList : Nat) : Int) := by
  have h := impl_SumMore_l0 x hx x.size s 0 (by omega) (by omega) hs
  rw [List.drop_zero] at h
  exact h

def sumT (x : ByteArray) : Nat := sumN 4294967295 x.data.toList
theorem sumT_lt (x : ByteArray) : sumT x < 2 ^ 32 := sumN_lt _ (by omega)
theorem spec_SumOf_ev (x : ByteArray) (hx : x.size ≤ 140737488351232) : Ev (fun k => spec_SumOf.f k x) ((sumT x : Nat) : Int) := by
  unfold spec_SumOf.f
  exact Ev.bind (spec_SumMore_ev x hx (s := 4294967295) (by omega)) (Ev.now _)
theorem impl_SumOf_ev (x : ByteArray) (hx : x.size ≤ 140737488351232) : Ev (fun k => impl_SumOf.f k x) ((sumT x : Nat) : Int) := by
  unfold impl_SumOf.f
  exact Ev.bind (impl_SumMore_ev x hx (s := 4294967295) (by omega)) (Ev.now _)

def four (n : Nat) : ByteArray := strOfNums [((n : Int) / 16777216) % 256, ((n : Int) / 65536) % 256, ((n : Int) / 256) % 256, (n : Int) % 256]
theorem four_size (n : Nat) : (four n).size = 4 := by simp [four, strOfNums_size]
def sealedV (s : ByteArray) : ByteArray × Bool := if (s.size : Int) > 20000 then ((⟨#[]⟩ : ByteArray), false) else (s ++ four (sumT s), true)

/-! ### numbers in bytes -/
/-- The bytes of a number below 128 ^ (f + 1). -/
def varF : Nat → Nat → List Int
  | 0, n => [(n : Int)]
  | f + 1, n => if 127 < n then ((n % 128 + 128 : Nat) : Int) :: varF f (n / 128) else [(n : Int)]
theorem varF_length (f : Nat) : ∀ n, 1 ≤ (varF f n).length ∧ (varF f n).length ≤ f + 1 := by
  induction f with
  | zero => intro n; simp [varF]
  | succ f ih =>
    intro n
    unfold varF
    have := ih (n / 128)
    split
    · simp; omega
    · simp
/-- The text of a number. -/
def varS (n : Nat) : ByteArray := strOfNums (varF 4 n)
theorem varS_size (n : Nat) : 1 ≤ (varS n).size ∧ (varS n).size ≤ 5 := by
  unfold varS
  rw [strOfNums_size]
  exact varF_length 4 n
theorem var_byte {n : Nat} (h : 127 < n) (hn : n < 1000000000000) : (wrap64 ((Int.tmod (n : Int) 128) + 128)) % 256 = ((n % 128 + 128 : Nat) : Int) := by
  rw [Int.tmod_eq_emod_of_nonneg (by omega), w64 (by omega) (by omega)]
  omega
theorem var_next {n : Nat} (hn : n < 1000000000000) : wrap64 (Int.tdiv (n : Int) 128) = ((n / 128 : Nat) : Int) := by
  rw [Int.tdiv_eq_ediv_of_nonneg (by omega), w64 (by omega) (by omega)]
  rfl
def varTextV (n : Int) : ByteArray × Bool := if 0 ≤ n ∧ n ≤ 1000000000 then (varS n.toNat, true) else ((⟨#[]⟩ : ByteArray), false)
theorem varTextV_pos {n : Nat} (h : n ≤ 1000000000) : varTextV (n : Int) = (varS n, true) := by
  unfold varTextV
  rw [if_pos (by omega), Int.toNat_natCast]
theorem varTextV_neg {n : Nat} (h : ¬ n ≤ 1000000000) : varTextV (n : Int) = ((⟨#[]⟩ : ByteArray), false) := by
  unfold varTextV
  rw [if_neg (by omega)]
theorem varS_len (n : Nat) : (varS n).size = (varF 4 n).length := strOfNums_size _

theorem spec_l01Var_l0 (f : Nat) : ∀ (n : Nat) (acc : List Int), n < 128 ^ (f + 1) → f ≤ 4 → acc.length + f < 1000 → Ev (fun k => spec_l01Var.l0 k (n : Int) acc) (strOfNums (acc ++ varF f n)) := by
  induction f with
  | zero =>
    intro n acc hn hf ha
    refine Ev.step (f := fun _ => some (strOfNums (acc ++ [(n : Int)]))) (fun k => ?_) (Ev.now _)
    simp only [spec_l01Var.l0]
    rw [if_neg (by omega), if_pos (by omega), Int.emod_eq_of_lt (by omega) (by omega)]
  | succ f ih =>
    intro n acc hn hf ha
    have h5 : 128 ^ (f + 1 + 1) ≤ 128 ^ 5 := Nat.pow_le_pow_right (by omega) (by omega)
    have hp : 128 ^ (f + 1 + 1) = 128 * 128 ^ (f + 1) := by rw [Nat.pow_succ]; omega
    unfold varF
    by_cases h : 127 < n
    · rw [if_pos h]
      refine Ev.step (f := fun k => spec_l01Var.l0 k ((n / 128 : Nat) : Int) (acc ++ [((n % 128 + 128 : Nat) : Int)])) (fun k => ?_) ?_
      · simp only [spec_l01Var.l0]
        rw [if_pos (by omega), if_pos (by omega), var_byte h (by omega), var_next (by omega)]
      · have := ih (n / 128) (acc ++ [((n % 128 + 128 : Nat) : Int)]) (by omega) (by omega) (by simp; omega)
        rw [List.append_assoc, List.singleton_append] at this
        exact this
    · rw [if_neg h]
      refine Ev.step (f := fun _ => some (strOfNums (acc ++ [(n : Int)]))) (fun k => ?_) (Ev.now _)
      simp only [spec_l01Var.l0]
      rw [if_neg (by omega), if_pos (by omega), Int.emod_eq_of_lt (by omega) (by omega)]
theorem spec_l01Var_ev {n : Nat} (h : n < 128 ^ 5) : Ev (fun k => spec_l01Var.f k (n : Int)) (varS n) := spec_l01Var_l0 4 n [] h (by omega) (by simp)

theorem impl_VarText_l0 (f : Nat) : ∀ (n : Nat) (acc : List Int), n < 128 ^ (f + 1) → f ≤ 4 → acc.length + f < 1000 → Ev (fun k => impl_VarText.l0 k (n : Int) acc) (strOfNums (acc ++ varF f n), true) := by
  induction f with
  | zero =>
    intro n acc hn hf ha
    refine Ev.step (f := fun _ => some (strOfNums (acc ++ [(n : Int)]), true)) (fun k => ?_) (Ev.now _)
    simp only [impl_VarText.l0]
    rw [if_neg (by omega), if_pos (by omega), Int.emod_eq_of_lt (by omega) (by omega)]
  | succ f ih =>
    intro n acc hn hf ha
    have h5 : 128 ^ (f + 1 + 1) ≤ 128 ^ 5 := Nat.pow_le_pow_right (by omega) (by omega)
    have hp : 128 ^ (f + 1 + 1) = 128 * 128 ^ (f + 1) := by rw [Nat.pow_succ]; omega
    unfold varF
    by_cases h : 127 < n
    · rw [if_pos h]
      refine Ev.step (f := fun k => impl_VarText.l0 k ((n / 128 : Nat) : Int) (acc ++ [((n % 128 + 128 : Nat) : Int)])) (fun k => ?_) ?_
      · simp only [impl_VarText.l0]
        rw [if_pos (by omega), if_pos (by omega), var_byte h (by omega), var_next (by omega)]
      · have := ih (n / 128) (acc ++ [((n % 128 + 128 : Nat) : Int)]) (by omega) (by omega) (by simp; omega)
        rw [List.append_assoc, List.singleton_append] at this
        exact this
    · rw [if_neg h]
      refine Ev.step (f := fun _ => some (strOfNums (acc ++ [(n : Int)]), true)) (fun k => ?_) (Ev.now _)
      simp only [impl_VarText.l0]
      rw [if_neg (by omega), if_pos (by omega), Int.emod_eq_of_lt (by omega) (by omega)]
theorem impl_VarText_ev (n : Int) : Ev (fun k => impl_VarText.f k n) (varTextV n) := by
  unfold varTextV impl_VarText.f
  simp only [impl_within_eq, Option.bind_some, decide_eq_true_eq]
  by_cases h : 0 ≤ n ∧ n ≤ 1000000000
  · simp only [if_pos h]
    obtain ⟨m, rfl⟩ := Int.eq_ofNat_of_zero_le h.1
    exact impl_VarText_l0 4 m [] (by omega) (by omega) (by simp)
  · simp only [if_neg h]
    exact Ev.now _

/-! ### a number read out of bytes -/
theorem rv_bt (s : ByteArray) {i : Nat} (h : i < s.size) : bt s (i : Int) = ((s.data.toList[i]'h).toNat : Int) := by
  unfold bt
  rw [dif_pos (by simpa using h)]
  rfl
theorem rv_drop (s : ByteArray) {i : Nat} (h : i < s.size) : s.data.toList.drop i = (s.data.toList[i]'h) :: s.data.toList.drop (i + 1) := List.drop_eq_getElem_cons h
/-- At most f bytes from here on: the number, and how many bytes it took. -/
def scan : Nat → List UInt8 → Nat → Nat → Nat → Option (Nat × Nat)
  | 0, _, _, _, _ => none
  | _ + 1, [], _, _, _ => none
  | f + 1, c :: cs, n, sc, m => if c.toNat < 128 then some (n + c.toNat % 128 * sc, m + 1) else scan f cs (n + c.toNat % 128 * sc) (sc * 128) (m + 1)
def outV (p : Nat) : Option (Nat × Nat) → Int × Int × Bool
  | none => (0, 0, false)
  | some (n, m) => if n ≤ 1000000000 ∧ (varF 4 n).length = m then ((n : Int), ((p + m : Nat) : Int), true) else (0, 0, false)
def readVarV (s : ByteArray) (p : Int) : Int × Int × Bool := if 0 ≤ p ∧ p ≤ (s.size : Int) then outV p.toNat (scan 5 (s.data.toList.drop p.toNat) 0 1 0) else (0, 0, false)
def dec : List UInt8 → Nat
  | [] => 0
  | c :: cs => c.toNat % 128 + 128 * dec cs
theorem dec_snoc (ds : List UInt8) (c : UInt8) : dec (ds ++ [c]) = dec ds + c.toNat % 128 * 128 ^ ds.length := by
  induction ds with
  | nil => simp [dec]
  | cons d ds ih =>
    simp only [List.cons_append, dec, ih, List.length_cons, Nat.pow_succ, Nat.mul_add]
    rw [← Nat.add_assoc, Nat.mul_left_comm, Nat.mul_comm 128 (128 ^ ds.length)]
theorem dec_lt (ds : List UInt8) : dec ds < 128 ^ ds.length := by
  induction ds with
  | nil => simp [dec]
  | cons d ds ih =>
    simp only [dec, List.length_cons, Nat.pow_succ]
    omega
def numsU (l : List UInt8) : List Int := l.map fun b => (b.toNat : Int)
theorem varF_dec (c : UInt8) (hc : c.toNat < 128) (ds : List UInt8) : ∀ f, (∀ b ∈ ds, 128 ≤ b.toNat) → ds.length ≤ f → (varF f (dec (ds ++ [c]))).length = ds.length + 1 → varF f (dec (ds ++ [c])) = numsU (ds ++ [c]) := by
  induction ds with
  | nil =>
    intro f _ _ _
    have e : dec ([] ++ [c]) = c.toNat := by simp [dec]; omega
    rw [e]
    cases f with
    | zero => rfl
    | succ f => unfold varF; rw [if_neg (by omega)]; rfl
  | cons d ds ih =>
    intro f hb hf hl
    obtain ⟨f, rfl⟩ : ∃ g, f = g + 1 := ⟨f - 1, by simp at hf; omega⟩
    have hd : 128 ≤ d.toNat := hb d (by simp)
    have hd2 := d.toNat_lt
    simp only [List.cons_append, dec] at hl ⊢
    unfold varF at hl ⊢
    have hN : (d.toNat % 128 + 128 * dec (ds ++ [c])) % 128 = d.toNat % 128 := by omega
    have hD : (d.toNat % 128 + 128 * dec (ds ++ [c])) / 128 = dec (ds ++ [c]) := by omega
    by_cases h : 127 < d.toNat % 128 + 128 * dec (ds ++ [c])
    · rw [if_pos h, hN, hD] at hl ⊢
      rw [ih f (fun b hb' => hb b (by simp [hb'])) (by simpa using hf) (by simpa using hl)]
      show ((d.toNat % 128 + 128 : Nat) : Int) :: _ = ((d.toNat : Nat) : Int) :: _
      rw [show d.toNat % 128 + 128 = d.toNat by omega]
      rfl
    · rw [if_neg h] at hl
      simp at hl
theorem strOfNums_numsU (l : List UInt8) : (strOfNums (numsU l)).data.toList = l := by
  simp only [strOfNums, numsU, List.map_map]
  induction l with
  | nil => rfl
  | cons b l ih =>
    simp
    exact ih
theorem rv_text (s : ByteArray) {p m : Nat} (h : p + m ≤ s.size) (l : List UInt8) (hl : (s.data.toList.drop p).take m = l) (n : Nat) (hv : varF 4 n = numsU l) : varS n = s.extract p (p + m) := by
  apply str_ext
  unfold varS
  rw [hv, strOfNums_numsU, str_cut, Nat.add_sub_cancel_left, hl]
/-- One figure's share. -/
theorem rv_share {c i n : Nat} (hi : i ≤ 4) (hn : n < 128 ^ i) : n + c % 128 * 128 ^ i < 128 ^ (i + 1) ∧ n + c % 128 * 128 ^ i < 128 ^ 5 ∧ c % 128 * 128 ^ i < 128 ^ 5 ∧ 128 ^ i ≤ 128 ^ 4 := by
  have h1 : c % 128 ≤ 127 := by omega
  have h2 : c % 128 * 128 ^ i ≤ 127 * 128 ^ i := Nat.mul_le_mul_right _ h1
  have h3 : 128 ^ (i + 1) = 128 ^ i * 128 := Nat.pow_succ _ _
  have h4 : 128 ^ (i + 1) ≤ 128 ^ 5 := Nat.pow_le_pow_right (by omega) (by omega)
  have h5 : 128 ^ i ≤ 128 ^ 4 := Nat.pow_le_pow_right (by omega) (by omega)
  generalize c % 128 * 128 ^ i = q at h2 ⊢
  generalize 128 ^ i = e at h2 h3 h5 hn ⊢
  rw [h3] at h4 ⊢
  omega
theorem rv_w7 {i : Nat} (hi : i ≤ 4) : wrap64 (7 * (i : Int)) = ((7 * i : Nat) : Int) := by
  rw [w64 (by omega) (by omega)]
  rfl
theorem rv_nn (n : Nat) : 0 ≤ (n : Int) := Int.natCast_nonneg n
theorem rv_shl {c i : Nat} (hi : i ≤ 4) (hc : c < 256) : shl .i64 (Int.tmod (wrap64 (c : Int)) 128) (wrap64 (7 * (i : Int))) = ((c % 128 * 128 ^ i : Nat) : Int) := by
  have h7 : wrap64 (7 * (i : Int)) = ((7 * i : Nat) : Int) := by rw [w64 (by omega) (by omega)]; rfl
  have hm : min (7 * i) 64 = 7 * i := by omega
  have hq := (rv_share (c := c) (n := 0) hi (Nat.pow_pos (by omega))).2.2.1
  unfold shl
  rw [h7, Int.toNat_natCast, show IntKind.i64.bits = 64 from rfl, hm, wnat (by omega), Int.tmod_eq_emod_of_nonneg (by omega), IntKind.wrap_i64]
  have e2 : (2 : Int) ^ (7 * i) = ((128 ^ i : Nat) : Int) := by rw [Int.natCast_pow, Int.pow_mul]; rfl
  have e3 : (c : Int) % 128 * ((128 ^ i : Nat) : Int) = ((c % 128 * 128 ^ i : Nat) : Int) := by rw [Int.natCast_mul]; rfl
  rw [e2, e3]
  generalize c % 128 * 128 ^ i = q at hq ⊢
  omega
theorem rv_mul {c i : Nat} (hi : i ≤ 4) (hc : c < 256) : wrap64 ((Int.tmod (wrap64 (c : Int)) 128) * ((128 ^ i : Nat) : Int)) = ((c % 128 * 128 ^ i : Nat) : Int) := by
  have hq := (rv_share (c := c) (n := 0) hi (Nat.pow_pos (by omega))).2.2.1
  have e3 : (c : Int) % 128 * ((128 ^ i : Nat) : Int) = ((c % 128 * 128 ^ i : Nat) : Int) := by rw [Int.natCast_mul]; rfl
  rw [wnat (by omega), Int.tmod_eq_emod_of_nonneg (by omega), e3]
  exact wnat (by omega)
theorem rv_scale {i : Nat} (hi : i ≤ 4) : wrap64 (((128 ^ i : Nat) : Int) * 128) = ((128 ^ i * 128 : Nat) : Int) := by
  have h5 : 128 ^ i ≤ 128 ^ 4 := Nat.pow_le_pow_right (by omega) (by omega)
  generalize 128 ^ i = e at h5 ⊢
  rw [w64 (by omega) (by omega)]
  rfl

theorem impl_ReadVar_stop (s : ByteArray) (p n i : Int) : Ev (fun k => impl_ReadVar.j1 k s p n i false) (0, 0, false) :=
  Ev.step (f := fun _ => some (0, 0, false)) (fun k => by simp only [impl_ReadVar.j1, Bool.false_eq_true, if_false]) (Ev.now _)
theorem impl_ReadVar_last (s : ByteArray) (hs : s.size ≤ 140737488351232) (p i n : Nat) (hlt : p + i < s.size) (hi : i ≤ 4) (hn : n < 128 ^ i) (hc : (s.data.toList[p + i]'hlt).toNat < 128) :
    Ev (fun k => impl_ReadVar.j1 k s (p : Int) (n : Int) (i : Int) true) (outV p (some (n + (s.data.toList[p + i]'hlt).toNat % 128 * 128 ^ i, i + 1))) := by
  have h7 : 0 ≤ wrap64 (7 * (i : Int)) := by rw [rv_w7 hi]; exact rv_nn _
  have hw := wadd (a := p) (b := i) (by omega)
  have hw1 := wsucc (n := i) (by omega)
  have hw2 := wsucc (n := p + i) (by omega)
  have g1 : 0 ≤ ((p + i : Nat) : Int) := rv_nn _
  have g2 : ((p + i : Nat) : Int) < (s.size : Int) := by omega
  have hb := (s.data.toList[p + i]'hlt).toNat_lt
  have g3 : ((s.data.toList[p + i]'hlt).toNat : Int) < 128 := by omega
  have hwc := wnat (n := (s.data.toList[p + i]'hlt).toNat) (by omega)
  have hN := (rv_share (c := (s.data.toList[p + i]'hlt).toNat) hi hn).2.1
  have hnn := wadd (a := n) (b := (s.data.toList[p + i]'hlt).toNat % 128 * 128 ^ i) (Nat.le_trans (Nat.le_of_lt hN) (by decide))
  have hbt := rv_bt s hlt
  have hsh := rv_shl hi hb
  generalize (s.data.toList[p + i]'hlt).toNat = c at hb hN hnn hbt hsh hc hwc g3 ⊢
  generalize hq : c % 128 * 128 ^ i = q at hN hnn hsh ⊢
  generalize hNN : n + q = N at hN hnn ⊢
  refine Ev.step (f := fun k => (impl_VarText.f k (N : Int)).bind fun b => if b.2 = true then (if (b.1.size : Int) = ((i + 1 : Nat) : Int) then some ((N : Int), ((p + i + 1 : Nat) : Int), true) else some (0, 0, false)) else some (0, 0, false)) (fun k => ?_) ?_
  · simp only [impl_ReadVar.j1, if_true]
    rw [hw, if_pos g1, if_pos g2, if_pos h7, hbt, hsh, hnn, hwc, if_pos g3, hw1, hw2]
  · refine Ev.bind (impl_VarText_ev (N : Int)) ?_
    by_cases hM : N ≤ 1000000000
    · rw [varTextV_pos hM]
      simp only [if_true, varS_len N, outV]
      by_cases hL : (varF 4 N).length = i + 1
      · simp only [if_pos (And.intro hM hL), if_pos (show ((varF 4 N).length : Int) = ((i + 1 : Nat) : Int) from congrArg Nat.cast hL)]
        exact Ev.now _
      · simp only [if_neg (show ¬ (N ≤ 1000000000 ∧ (varF 4 N).length = i + 1) from fun h => hL h.2), if_neg (show ¬ ((varF 4 N).length : Int) = ((i + 1 : Nat) : Int) from fun h => hL (Int.ofNat.inj h))]
        exact Ev.now _
    · rw [varTextV_neg hM]
      simp only [Bool.false_eq_true, if_false, outV, if_neg (show ¬ (N ≤ 1000000000 ∧ (varF 4 N).length = i + 1) from fun h => hM h.1)]
      exact Ev.now _
theorem impl_ReadVar_more (s : ByteArray) (hs : s.size ≤ 140737488351232) (p i n : Nat) (hlt : p + i < s.size) (hi : i ≤ 4) (hn : n < 128 ^ i) (hc : ¬ (s.data.toList[p + i]'hlt).toNat < 128) (k : Nat) :
    impl_ReadVar.j1 (k + 1) s (p : Int) (n : Int) (i : Int) true = impl_ReadVar.l0 k s (p : Int) ((n + (s.data.toList[p + i]'hlt).toNat % 128 * 128 ^ i : Nat) : Int) ((i + 1 : Nat) : Int) := by
  have h7 : 0 ≤ wrap64 (7 * (i : Int)) := by rw [rv_w7 hi]; exact rv_nn _
  have hw := wadd (a := p) (b := i) (by omega)
  have hw1 := wsucc (n := i) (by omega)
  have g1 : 0 ≤ ((p + i : Nat) : Int) := rv_nn _
  have g2 : ((p + i : Nat) : Int) < (s.size : Int) := by omega
  have hb := (s.data.toList[p + i]'hlt).toNat_lt
  have g3 : ¬ ((s.data.toList[p + i]'hlt).toNat : Int) < 128 := by omega
  have hwc := wnat (n := (s.data.toList[p + i]'hlt).toNat) (by omega)
  have hN := (rv_share (c := (s.data.toList[p + i]'hlt).toNat) hi hn).2.1
  have hnn := wadd (a := n) (b := (s.data.toList[p + i]'hlt).toNat % 128 * 128 ^ i) (Nat.le_trans (Nat.le_of_lt hN) (by decide))
  have hbt := rv_bt s hlt
  have hsh := rv_shl hi hb
  simp only [impl_ReadVar.j1, if_true]
  rw [hw, if_pos g1, if_pos g2, if_pos h7, hbt, hsh, hnn, hwc, if_neg g3, hw1]
theorem impl_ReadVar_l0 (s : ByteArray) (hs : s.size ≤ 140737488351232) (p : Nat) (hp : p ≤ s.size) (f : Nat) : ∀ (i n : Nat), i + f = 5 → n < 128 ^ i →
    Ev (fun k => impl_ReadVar.l0 k s (p : Int) (n : Int) (i : Int)) (outV p (scan f (s.data.toList.drop (p + i)) n (128 ^ i) i)) := by
  induction f with
  | zero =>
    intro i n hi hn
    refine Ev.step (f := fun k => impl_ReadVar.j1 k s (p : Int) (n : Int) (i : Int) false) (fun k => ?_) (impl_ReadVar_stop _ _ _ _)
    simp only [impl_ReadVar.l0]
    rw [if_neg (by omega)]
  | succ f ih =>
    intro i n hi hn
    have hw := wadd (a := p) (b := i) (by omega)
    by_cases hlt : p + i < s.size
    · refine Ev.step (f := fun k => impl_ReadVar.j1 k s (p : Int) (n : Int) (i : Int) true) (fun k => ?_) ?_
      · simp only [impl_ReadVar.l0]
        rw [if_pos (by omega), hw, decide_eq_true (show ((p + i : Nat) : Int) < (s.size : Int) by omega)]
      · rw [rv_drop s hlt]
        unfold scan
        by_cases hc : (s.data.toList[p + i]'hlt).toNat < 128
        · rw [if_pos hc]
          exact impl_ReadVar_last s hs p i n hlt (by omega) hn hc
        · rw [if_neg hc]
          have := ih (i + 1) (n + (s.data.toList[p + i]'hlt).toNat % 128 * 128 ^ i) (by omega) (rv_share (by omega) hn).1
          rw [Nat.pow_succ, show p + (i + 1) = p + i + 1 by omega] at this
          exact Ev.step (fun k => impl_ReadVar_more s hs p i n hlt (by omega) hn hc k) this
    · have hz : s.data.toList.drop (p + i) = [] := List.drop_eq_nil_of_le (by rw [str_len]; omega)
      rw [hz]
      refine Ev.step (f := fun k => impl_ReadVar.j1 k s (p : Int) (n : Int) (i : Int) false) (fun k => ?_) (impl_ReadVar_stop _ _ _ _)
      simp only [impl_ReadVar.l0]
      rw [if_pos (by omega), hw, decide_eq_false (show ¬ ((p + i : Nat) : Int) < (s.size : Int) by omega)]
theorem impl_ReadVar_ev (s : ByteArray) (hs : s.size ≤ 140737488351232) (p : Int) : Ev (fun k => impl_ReadVar.f k s p) (readVarV s p) := by
  unfold impl_ReadVar.f
  simp only [impl_within_eq, Option.bind_some, decide_eq_true_eq]
  by_cases h : 0 ≤ p ∧ p ≤ (s.size : Int)
  · simp only [if_pos h, readVarV]
    obtain ⟨q, rfl⟩ := Int.eq_ofNat_of_zero_le h.1
    have := impl_ReadVar_l0 s hs q (by omega) 5 0 0 (by omega) (by omega)
    rw [Nat.pow_zero, Nat.add_zero] at this
    exact this
  · simp only [if_neg h, readVarV]
    exact Ev.now _

theorem spec_ReadVar_stop (s : ByteArray) (p n sc i : Int) : Ev (fun k => spec_ReadVar.j1 k s p n sc i false) (0, 0, false) :=
  Ev.step (f := fun _ => some (0, 0, false)) (fun k => by simp only [spec_ReadVar.j1, Bool.false_eq_true, if_false]) (Ev.now _)
theorem spec_ReadVar_last (s : ByteArray) (hs : s.size ≤ 140737488351232) (p i n : Nat) (hlt : p + i < s.size) (hi : i ≤ 4) (hn : n < 128 ^ i) (hc : (s.data.toList[p + i]'hlt).toNat < 128)
    (hvt : (varF 4 (n + (s.data.toList[p + i]'hlt).toNat % 128 * 128 ^ i)).length = i + 1 → varS (n + (s.data.toList[p + i]'hlt).toNat % 128 * 128 ^ i) = s.extract p (p + (i + 1))) :
    Ev (fun k => spec_ReadVar.j1 k s (p : Int) (n : Int) ((128 ^ i : Nat) : Int) ((p + i : Nat) : Int) true) (outV p (some (n + (s.data.toList[p + i]'hlt).toNat % 128 * 128 ^ i, i + 1))) := by
  have hb := (s.data.toList[p + i]'hlt).toNat_lt
  have hN := (rv_share (c := (s.data.toList[p + i]'hlt).toNat) hi hn).2.1
  have hnn := wadd (a := n) (b := (s.data.toList[p + i]'hlt).toNat % 128 * 128 ^ i) (by omega)
  have hbt := rv_bt s hlt
  have hm := rv_mul hi hb
  generalize (s.data.toList[p + i]'hlt).toNat = c at hb hN hnn hbt hm hc hvt ⊢
  generalize hq : c % 128 * 128 ^ i = q at hN hnn hm hvt ⊢
  generalize hNN : n + q = N at hN hnn hvt ⊢
  clear hq hNN hn
  have hw1 := wsucc (n := p + i) (by omega)
  refine Ev.step (f := fun k => if (N : Int) > 1000000000 then some (0, 0, false) else (spec_l01Var.f k (N : Int)).bind fun t => if t.toList = (s.extract p (p + i + 1)).toList then some ((N : Int), ((p + i + 1 : Nat) : Int), true) else some (0, 0, false)) (fun k => ?_) ?_
  · simp only [spec_ReadVar.j1, if_true]
    rw [if_pos (by omega), if_pos (by omega), hbt, hm, hnn, if_pos (by omega), hw1]
    simp only [if_pos (show 0 ≤ (p : Int) by omega), if_pos (show (p : Int) ≤ ((p + i + 1 : Nat) : Int) by omega), if_pos (show ((p + i + 1 : Nat) : Int) ≤ (s.size : Int) by omega), Int.toNat_natCast]
  · by_cases hM : N ≤ 1000000000
    · simp only [if_neg (show ¬ (N : Int) > 1000000000 by omega)]
      refine Ev.bind (spec_l01Var_ev hN) ?_
      clear hm hbt hnn hw1
      simp only [str_toList, outV]
      by_cases hL : (varF 4 N).length = i + 1
      · simp only [if_pos (And.intro hM hL), if_pos (show varS N = s.extract p (p + i + 1) from hvt hL)]
        exact Ev.now _
      · have hne : ¬ varS N = s.extract p (p + i + 1) := by
          intro h
          apply hL
          rw [← varS_len, h, ByteArray.size_extract]
          omega
        simp only [if_neg (show ¬ (N ≤ 1000000000 ∧ (varF 4 N).length = i + 1) from fun h => hL h.2), if_neg hne]
        exact Ev.now _
    · simp only [if_pos (show (N : Int) > 1000000000 by omega), outV, if_neg (show ¬ (N ≤ 1000000000 ∧ (varF 4 N).length = i + 1) from fun h => hM h.1)]
      exact Ev.now _
theorem spec_ReadVar_more (s : ByteArray) (hs : s.size ≤ 140737488351232) (p i n : Nat) (hlt : p + i < s.size) (hi : i ≤ 4) (hn : n < 128 ^ i) (hc : ¬ (s.data.toList[p + i]'hlt).toNat < 128) (k : Nat) :
    spec_ReadVar.j1 (k + 1) s (p : Int) (n : Int) ((128 ^ i : Nat) : Int) ((p + i : Nat) : Int) true = spec_ReadVar.l0 k s (p : Int) ((n + (s.data.toList[p + i]'hlt).toNat % 128 * 128 ^ i : Nat) : Int) ((128 ^ i * 128 : Nat) : Int) ((p + i + 1 : Nat) : Int) := by
  have hb := (s.data.toList[p + i]'hlt).toNat_lt
  have hN := (rv_share (c := (s.data.toList[p + i]'hlt).toNat) hi hn).2.1
  have hnn := wadd (a := n) (b := (s.data.toList[p + i]'hlt).toNat % 128 * 128 ^ i) (by omega)
  have hbt := rv_bt s hlt
  have hm := rv_mul hi hb
  have hsc := rv_scale hi
  generalize (s.data.toList[p + i]'hlt).toNat = c at hb hN hnn hbt hm hc ⊢
  generalize hq : c % 128 * 128 ^ i = q at hN hnn hm ⊢
  clear hq hn
  simp only [spec_ReadVar.j1, if_true]
  rw [if_pos (by omega), if_pos (by omega), hbt, hm, hnn, if_neg (by omega), wsucc (n := p + i) (by omega), hsc]
theorem spec_ReadVar_l0 (s : ByteArray) (hs : s.size ≤ 140737488351232) (p : Nat) (hp : p ≤ s.size) (f : Nat) : ∀ (i n : Nat), i + f = 5 → p + i ≤ s.size → n = dec ((s.data.toList.drop p).take i) → (∀ b ∈ (s.data.toList.drop p).take i, 128 ≤ b.toNat) →
    Ev (fun k => spec_ReadVar.l0 k s (p : Int) (n : Int) ((128 ^ i : Nat) : Int) ((p + i : Nat) : Int)) (outV p (scan f (s.data.toList.drop (p + i)) n (128 ^ i) i)) := by
  induction f with
  | zero =>
    intro i n hi hpi hn hge
    have hw := wadd (a := p) (b := 5) (by omega)
    refine Ev.step (f := fun k => spec_ReadVar.j1 k s (p : Int) (n : Int) ((128 ^ i : Nat) : Int) ((p + i : Nat) : Int) false) (fun k => ?_) (spec_ReadVar_stop _ _ _ _ _)
    simp only [spec_ReadVar.l0]
    rw [show wrap64 ((p : Int) + 5) = ((p + 5 : Nat) : Int) from hw, decide_eq_false (show ¬ ((p + i : Nat) : Int) < ((p + 5 : Nat) : Int) by omega)]
    split <;> rfl
  | succ f ih =>
    intro i n hi hpi hn hge
    have hw := wadd (a := p) (b := 5) (by omega)
    by_cases hlt : p + i < s.size
    · have hlen : ((s.data.toList.drop p).take i).length = i := by rw [List.length_take, List.length_drop, str_len]; omega
      have hnl : n < 128 ^ i := by have := dec_lt ((s.data.toList.drop p).take i); rwa [← hn, hlen] at this
      have htk : (s.data.toList.drop p).take (i + 1) = (s.data.toList.drop p).take i ++ [s.data.toList[p + i]'hlt] := by
        rw [List.take_succ_eq_append_getElem (by rw [List.length_drop, str_len]; omega)]
        simp
      have hd2 : n + (s.data.toList[p + i]'hlt).toNat % 128 * 128 ^ i = dec ((s.data.toList.drop p).take (i + 1)) := by rw [htk, dec_snoc, hlen, hn]
      refine Ev.step (f := fun k => spec_ReadVar.j1 k s (p : Int) (n : Int) ((128 ^ i : Nat) : Int) ((p + i : Nat) : Int) true) (fun k => ?_) ?_
      · simp only [spec_ReadVar.l0]
        rw [if_pos (show ((p + i : Nat) : Int) < (s.size : Int) by omega), show wrap64 ((p : Int) + 5) = ((p + 5 : Nat) : Int) from hw, decide_eq_true (show ((p + i : Nat) : Int) < ((p + 5 : Nat) : Int) by omega)]
      · rw [rv_drop s hlt]
        unfold scan
        by_cases hc : (s.data.toList[p + i]'hlt).toNat < 128
        · rw [if_pos hc]
          refine spec_ReadVar_last s hs p i n hlt (by omega) hnl hc (fun h => ?_)
          rw [hd2, htk] at h ⊢
          exact rv_text s (by omega) _ htk _ (varF_dec _ hc _ 4 hge (by rw [hlen]; omega) (by rw [h, hlen]))
        · rw [if_neg hc]
          have := ih (i + 1) (n + (s.data.toList[p + i]'hlt).toNat % 128 * 128 ^ i) (by omega) (by omega) hd2 (by
            intro b hb'
            rw [htk] at hb'
            rcases List.mem_append.1 hb' with h | h
            · exact hge b h
            · rw [List.mem_singleton.1 h]; omega)
          rw [Nat.pow_succ, show p + (i + 1) = p + i + 1 by omega] at this
          exact Ev.step (fun k => spec_ReadVar_more s hs p i n hlt (by omega) hnl hc k) this
    · have hz : s.data.toList.drop (p + i) = [] := List.drop_eq_nil_of_le (by rw [str_len]; omega)
      rw [hz]
      refine Ev.step (f := fun k => spec_ReadVar.j1 k s (p : Int) (n : Int) ((128 ^ i : Nat) : Int) ((p + i : Nat) : Int) false) (fun k => ?_) (spec_ReadVar_stop _ _ _ _ _)
      simp only [spec_ReadVar.l0]
      rw [if_neg (show ¬ ((p + i : Nat) : Int) < (s.size : Int) by omega)]
theorem spec_ReadVar_ev (s : ByteArray) (hs : s.size ≤ 140737488351232) (p : Int) : Ev (fun k => spec_ReadVar.f k s p) (readVarV s p) := by
  unfold spec_ReadVar.f
  simp only [spec_l01In_eq, Option.bind_some, decide_eq_true_eq]
  by_cases h : 0 ≤ p ∧ p ≤ (s.size : Int)
  · simp only [if_pos h, readVarV]
    obtain ⟨q, rfl⟩ := Int.eq_ofNat_of_zero_le h.1
    have := spec_ReadVar_l0 s hs q (by omega) 5 0 0 (by omega) (by omega) (by simp [dec]) (by simp)
    rw [Nat.pow_zero, Nat.add_zero] at this
    exact this
  · simp only [if_neg h, readVarV]
    exact Ev.now _

theorem scan_le (f : Nat) : ∀ (l : List UInt8) (n sc m : Nat) (r : Nat × Nat), scan f l n sc m = some r → m < r.2 ∧ r.2 ≤ m + l.length := by
  induction f with
  | zero => intro l n sc m r h; simp [scan] at h
  | succ f ih =>
    intro l n sc m r h
    cases l with
    | nil => simp [scan] at h
    | cons c cs =>
      unfold scan at h
      split at h
      · injection h with h
        rw [← h]
        simp
      · have := ih _ _ _ _ _ h
        simp
        omega
/-- What ReadVar answers: no, or a number and the place behind it. -/
theorem readVar_cases (s : ByteArray) (p : Int) : readVarV s p = (0, 0, false) ∨ ∃ n q : Nat, readVarV s p = ((n : Int), (q : Int), true) ∧ n ≤ 1000000000 ∧ p < (q : Int) ∧ q ≤ s.size ∧ 0 ≤ p := by
  unfold readVarV
  by_cases h : 0 ≤ p ∧ p ≤ (s.size : Int)
  · rw [if_pos h]
    cases e : scan 5 (s.data.toList.drop p.toNat) 0 1 0 with
    | none => exact .inl rfl
    | some r =>
      obtain ⟨n, m⟩ := r
      have hle := scan_le _ _ _ _ _ _ e
      rw [List.length_drop, str_len] at hle
      unfold outV
      simp only
      split
      · rename_i h2
        refine .inr ⟨n, p.toNat + m, rfl, h2.1, ?_, ?_, h.1⟩
        · simp at hle; omega
        · simp at hle; omega
      · exact .inl rfl
  · rw [if_neg h]
    exact .inl rfl
def readShortV (s : ByteArray) (p : Int) : ByteArray × Int × Bool :=
  let r := readVarV s p
  if r.2.2 = true ∧ r.1 ≤ 20000 ∧ r.1 ≤ (s.size : Int) - r.2.1 then (s.extract r.2.1.toNat (r.2.1 + r.1).toNat, r.2.1 + r.1, true) else ((⟨#[]⟩ : ByteArray), 0, false)

def frameV (s : ByteArray) : ByteArray × Bool := if 1 ≤ (s.size : Int) ∧ (s.size : Int) ≤ 9000 then (varS s.size ++ four (sumT s) ++ s, true) else ((⟨#[]⟩ : ByteArray), false)

theorem spec_Frame_ev (s : ByteArray) : Ev (fun k => spec_Frame.f k s) (frameV s) := by
  unfold spec_Frame.f spec_l02Four.f frameV
  simp only [spec_l01In_eq, Option.bind_some, decide_eq_true_eq]
  by_cases h : 1 ≤ (s.size : Int) ∧ (s.size : Int) ≤ 9000
  · simp only [if_pos h]
    refine Ev.bind (spec_l01Var_ev (by omega)) (Ev.bind (spec_SumOf_ev s (by omega)) ?_)
    have h4 := four_size (sumT s)
    have h5 := varS_size s.size
    have e1 : (varS s.size).size + (four (sumT s)).size ≤ 9223372036854775807 := by omega
    have e2 : (varS s.size ++ four (sumT s)).size + s.size ≤ 9223372036854775807 := by rw [ByteArray.size_append]; omega
    unfold four at e1 e2 ⊢
    simp only [if_pos e1, if_pos e2]
    exact Ev.now _
  · simp only [if_neg h]
    exact Ev.now _

theorem impl_Frame_ev (s : ByteArray) : Ev (fun k => impl_Frame.f k s) (frameV s) := by
  unfold impl_Frame.f frameV
  simp only [impl_within_eq, Option.bind_some, decide_eq_true_eq]
  by_cases h : 1 ≤ (s.size : Int) ∧ (s.size : Int) ≤ 9000
  · simp only [if_pos h]
    refine Ev.bind (impl_VarText_ev (s.size : Int)) (Ev.bind (impl_SumOf_ev s (by omega)) ?_)
    rw [varTextV_pos (by omega)]
    have h4 := four_size (sumT s)
    have h5 := varS_size s.size
    have e1 : (varS s.size).size + (four (sumT s)).size ≤ 9223372036854775807 := by omega
    have e2 : (varS s.size ++ four (sumT s)).size + s.size ≤ 9223372036854775807 := by rw [ByteArray.size_append]; omega
    unfold four at e1 e2 ⊢
    simp only [if_pos e1, if_pos e2]
    exact Ev.now _
  · simp only [if_neg h]
    exact Ev.now _

/-! ### records out of frames -/
def stepOk (s : ByteArray) (p : Nat) : Bool :=
  let r := readVarV s (p : Int)
  r.2.2 && decide (r.1 ≤ (s.size : Int) - r.2.1 - 4) && (frameV (s.extract (r.2.1.toNat + 4) (r.2.1.toNat + 4 + r.1.toNat))).2 && decide ((frameV (s.extract (r.2.1.toNat + 4) (r.2.1.toNat + 4 + r.1.toNat))).1 = s.extract p (r.2.1.toNat + 4 + r.1.toNat))
def stepText (s : ByteArray) (p : Nat) : ByteArray := let r := readVarV s (p : Int); s.extract (r.2.1.toNat + 4) (r.2.1.toNat + 4 + r.1.toNat)
def stepEnd (s : ByteArray) (p : Nat) : Nat := let r := readVarV s (p : Int); r.2.1.toNat + 4 + r.1.toNat
def unfF : Nat → ByteArray → List ByteArray → Nat → List ByteArray × Int
  | 0, _, out, p => (out, (p : Int))
  | f + 1, s, out, p => if stepOk s p = true then unfF f s (out ++ [stepText s p]) (stepEnd s p) else (out, (p : Int))
def unframeV (s : ByteArray) : List ByteArray × Int := if (s.size : Int) > 20000 then ([], 0) else unfF (s.size + 1) s [] 0
theorem unfF_len (f : Nat) : ∀ (s : ByteArray) (out : List ByteArray) (p : Nat), (unfF f s out p).1.length ≤ out.length + f := by
  induction f with
  | zero => intro s out p; simp [unfF]
  | succ f ih =>
    intro s out p
    unfold unfF
    split
    · have := ih s (out ++ [stepText s p]) (stepEnd s p)
      rw [List.length_append, List.length_singleton] at this
      omega
    · simp

theorem impl_Unframe_l0 (s : ByteArray) (hs : s.size ≤ 20000) (f : Nat) : ∀ (out : List ByteArray) (p : Nat), p ≤ s.size → s.size < p + f → out.length ≤ p → Ev (fun k => impl_Unframe.l0 k s out (p : Int)) (unfF f s out p) := by
  induction f with
  | zero => intro out p hp hf; omega
  | succ f ih =>
    intro out p hp hf ho
    refine Ev.step (f := fun k => (impl_ReadVar.f k s (p : Int)).bind fun b => if b.2.2 = true then impl_Unframe.j1 k s out (p : Int) b.1 b.2.1 (decide (b.1 > wrap64 (wrap64 ((s.size : Int) - b.2.1) - 4))) else impl_Unframe.j1 k s out (p : Int) b.1 b.2.1 true) (fun k => by simp only [impl_Unframe.l0]) ?_
    refine Ev.bind (impl_ReadVar_ev s (by omega) (p : Int)) ?_
    have stop : ∀ x y : Int, Ev (fun k => impl_Unframe.j1 k s out (p : Int) x y true) (out, (p : Int)) := fun x y => Ev.step (f := fun _ => some (out, (p : Int))) (fun k => by simp only [impl_Unframe.j1, if_true]) (Ev.now _)
    unfold unfF
    rcases readVar_cases s (p : Int) with h | ⟨n, q, h, hn, hq, hqs, _⟩
    · rw [if_neg (by unfold stepOk; rw [h]; simp)]
      simp only [h, Bool.false_eq_true, if_false]
      exact stop _ _
    · have e1 : wrap64 (wrap64 ((s.size : Int) - (q : Int)) - 4) = (s.size : Int) - (q : Int) - 4 := by rw [w64 (x := (s.size : Int) - (q : Int)) (by omega) (by omega), w64 (by omega) (by omega)]
      simp only [h, if_true, e1]
      by_cases hc : (n : Int) > (s.size : Int) - (q : Int) - 4
      · rw [if_neg (by unfold stepOk; rw [h]; simp; intro h2; omega)]
        rw [decide_eq_true hc]
        exact stop _ _
      · rw [decide_eq_false hc]
        have e2 : wrap64 ((q : Int) + 4) = ((q + 4 : Nat) : Int) := by rw [w64 (by omega) (by omega)]; rfl
        have e3 : wrap64 (((q + 4 : Nat) : Int) + (n : Int)) = ((q + 4 + n : Nat) : Int) := by rw [w64 (by omega) (by omega)]; rfl
        have et : stepText s p = s.extract (q + 4) (q + 4 + n) := by unfold stepText; rw [h]; rfl
        have ee : stepEnd s p = q + 4 + n := by unfold stepEnd; rw [h]; rfl
        have eo : stepOk s p = ((frameV (s.extract (q + 4) (q + 4 + n))).2 && decide ((frameV (s.extract (q + 4) (q + 4 + n))).1 = s.extract p (q + 4 + n))) := by
          unfold stepOk
          rw [h]
          simp only [Int.toNat_natCast, Bool.true_and, decide_eq_true (show (n : Int) ≤ (s.size : Int) - (q : Int) - 4 by omega)]
        rw [et, ee, eo]
        refine Ev.step (f := fun k => (impl_Frame.f k (s.extract (q + 4) (q + 4 + n))).bind fun b => if b.2 = true then (if b.1.toList = (s.extract p (q + 4 + n)).toList then impl_Unframe.l0 k s (out ++ [s.extract (q + 4) (q + 4 + n)]) ((q + 4 + n : Nat) : Int) else some (out, (p : Int))) else some (out, (p : Int))) (fun k => ?_) (Ev.bind (impl_Frame_ev _) ?_)
        · simp only [impl_Unframe.j1, Bool.false_eq_true, if_false, e2, e3, Int.toNat_natCast]
          rw [if_pos (by omega), if_pos (by omega), if_pos (by omega)]
          simp only [if_pos (show 0 ≤ (p : Int) by omega), if_pos (show (p : Int) ≤ ((q + 4 + n : Nat) : Int) by omega), if_pos (show out.length < 8796093022208 by omega)]
        · cases hfr : (frameV (s.extract (q + 4) (q + 4 + n))).2 with
          | false =>
            simp only [Bool.false_and, Bool.false_eq_true, if_false]
            exact Ev.now _
          | true =>
            simp only [Bool.true_and, if_true, str_toList, decide_eq_true_eq]
            by_cases he : (frameV (s.extract (q + 4) (q + 4 + n))).1 = s.extract p (q + 4 + n)
            · simp only [if_pos he]
              exact ih _ _ (by omega) (by omega) (by simp; omega)
            · simp only [if_neg he]
              exact Ev.now _
theorem impl_Unframe_ev (s : ByteArray) : Ev (fun k => impl_Unframe.f k s) (unframeV s) := by
  unfold impl_Unframe.f unframeV
  by_cases h : (s.size : Int) > 20000
  · simp only [if_pos h, Option.bind_some]
    exact Ev.now _
  · simp only [if_neg h, Option.bind_some]
    exact impl_Unframe_l0 s (by omega) (s.size + 1) [] 0 (by omega) (by omega) (by simp)

theorem spec_Unframe_l0 (s : ByteArray) (hs : s.size ≤ 20000) (f : Nat) : ∀ (out : List ByteArray) (p : Nat), p ≤ s.size → s.size < p + f → out.length ≤ p → Ev (fun k => spec_Unframe.l0 k s out (p : Int)) (unfF f s out p) := by
  induction f with
  | zero => intro out p hp hf; omega
  | succ f ih =>
    intro out p hp hf ho
    by_cases hps : p = s.size
    · have hz : readVarV s (p : Int) = (0, 0, false) := by
        rcases readVar_cases s (p : Int) with h | ⟨n, q, h, hn, hq, hqs, _⟩
        · exact h
        · omega
      unfold unfF
      rw [if_neg (by unfold stepOk; rw [hz]; simp)]
      exact Ev.step (f := fun _ => some (out, (p : Int))) (fun k => by simp only [spec_Unframe.l0]; rw [if_neg (by omega)]) (Ev.now _)
    refine Ev.step (f := fun k => (spec_ReadVar.f k s (p : Int)).bind fun b => if b.2.2 = true then spec_Unframe.j1 k s out (p : Int) b.1 b.2.1 (decide (b.1 > wrap64 (wrap64 ((s.size : Int) - b.2.1) - 4))) else spec_Unframe.j1 k s out (p : Int) b.1 b.2.1 true) (fun k => by simp only [spec_Unframe.l0]; rw [if_pos (by omega)]) ?_
    refine Ev.bind (spec_ReadVar_ev s (by omega) (p : Int)) ?_
    have stop : ∀ x y : Int, Ev (fun k => spec_Unframe.j1 k s out (p : Int) x y true) (out, (p : Int)) := fun x y => Ev.step (f := fun _ => some (out, (p : Int))) (fun k => by simp only [spec_Unframe.j1, if_true]) (Ev.now _)
    unfold unfF
    rcases readVar_cases s (p : Int) with h | ⟨n, q, h, hn, hq, hqs, _⟩
    · rw [if_neg (by unfold stepOk; rw [h]; simp)]
      simp only [h, Bool.false_eq_true, if_false]
      exact stop _ _
    · have e1 : wrap64 (wrap64 ((s.size : Int) - (q : Int)) - 4) = (s.size : Int) - (q : Int) - 4 := by rw [w64 (x := (s.size : Int) - (q : Int)) (by omega) (by omega), w64 (by omega) (by omega)]
      simp only [h, if_true, e1]
      by_cases hc : (n : Int) > (s.size : Int) - (q : Int) - 4
      · rw [if_neg (by unfold stepOk; rw [h]; simp; intro h2; omega)]
        rw [decide_eq_true hc]
        exact stop _ _
      · rw [decide_eq_false hc]
        have e2 : wrap64 ((q : Int) + 4) = ((q + 4 : Nat) : Int) := by rw [w64 (by omega) (by omega)]; rfl
        have e3 : wrap64 (((q + 4 : Nat) : Int) + (n : Int)) = ((q + 4 + n : Nat) : Int) := by rw [w64 (by omega) (by omega)]; rfl
        have et : stepText s p = s.extract (q + 4) (q + 4 + n) := by unfold stepText; rw [h]; rfl
        have ee : stepEnd s p = q + 4 + n := by unfold stepEnd; rw [h]; rfl
        have eo : stepOk s p = ((frameV (s.extract (q + 4) (q + 4 + n))).2 && decide ((frameV (s.extract (q + 4) (q + 4 + n))).1 = s.extract p (q + 4 + n))) := by
          unfold stepOk
          rw [h]
          simp only [Int.toNat_natCast, Bool.true_and, decide_eq_true (show (n : Int) ≤ (s.size : Int) - (q : Int) - 4 by omega)]
        rw [et, ee, eo]
        refine Ev.step (f := fun k => (spec_Frame.f k (s.extract (q + 4) (q + 4 + n))).bind fun b => if b.2 = true then (if b.1.toList = (s.extract p (q + 4 + n)).toList then spec_Unframe.l0 k s (out ++ [s.extract (q + 4) (q + 4 + n)]) ((q + 4 + n : Nat) : Int) else some (out, (p : Int))) else some (out, (p : Int))) (fun k => ?_) (Ev.bind (spec_Frame_ev _) ?_)
        · simp only [spec_Unframe.j1, Bool.false_eq_true, if_false, e2, e3, Int.toNat_natCast]
          rw [if_pos (by omega), if_pos (by omega), if_pos (by omega)]
          simp only [if_pos (show 0 ≤ (p : Int) by omega), if_pos (show (p : Int) ≤ ((q + 4 + n : Nat) : Int) by omega), if_pos (show out.length < 8796093022208 by omega)]
        · cases hfr : (frameV (s.extract (q + 4) (q + 4 + n))).2 with
          | false =>
            simp only [Bool.false_and, Bool.false_eq_true, if_false]
            exact Ev.now _
          | true =>
            simp only [Bool.true_and, if_true, str_toList, decide_eq_true_eq]
            by_cases he : (frameV (s.extract (q + 4) (q + 4 + n))).1 = s.extract p (q + 4 + n)
            · simp only [if_pos he]
              exact ih _ _ (by omega) (by omega) (by simp; omega)
            · simp only [if_neg he]
              exact Ev.now _
theorem spec_Unframe_ev (s : ByteArray) : Ev (fun k => spec_Unframe.f k s) (unframeV s) := by
  unfold spec_Unframe.f unframeV
  by_cases h : (s.size : Int) > 20000
  · simp only [if_pos h, Option.bind_some]
    exact Ev.now _
  · simp only [if_neg h, Option.bind_some]
    exact spec_Unframe_l0 s (by omega) (s.size + 1) [] 0 (by omega) (by omega) (by simp)

/-! ### lists of texts, compared -/
theorem rdB_nat {l : List ByteArray} {i : Nat} (h : i < l.length) : rdOf ByteArray.empty l (i : Int) = l[i] := by
  unfold rdOf
  rw [Int.toNat_natCast, List.getD_eq_getElem?_getD, List.getElem?_eq_getElem h]
  rfl
theorem eqS_ev (l : List ByteArray) (hl : l.length ≤ 4611686018427387904) : Ev (fun k => laws_eqStringS.f k l l) true := by
  have key : ∀ d (i : Nat), i ≤ l.length → l.length - i = d → Ev (fun k => laws_eqStringS.l0 k l l (i : Int)) true := by
    intro d
    induction d with
    | zero =>
      intro i hi hd
      exact Ev.step (f := fun _ => some true) (fun k => by simp only [laws_eqStringS.l0]; rw [if_neg (by omega)]) (Ev.now _)
    | succ d ih =>
      intro i hi hd
      refine Ev.step (fun k => ?_) (ih (i + 1) (by omega) (by omega))
      simp only [laws_eqStringS.l0]
      rw [if_pos (by omega), if_pos (by omega), if_pos (by omega), wsucc (by omega)]
      simp only [if_true]
  unfold laws_eqStringS.f
  simp only [if_true]
  exact key l.length 0 (by omega) (by omega)

/-! ### marks -/
theorem markText_ex (m : Nat) (hm : m ≤ 1000000000000) : ∃ t, Ev (fun k => laws_markText.f k (m : Int)) t := by
  have key : ∀ (f : Nat) (x : Nat) (acc : ByteArray), x < 10 ^ f → x ≤ 1000000000000 → acc.size + f ≤ 1000 → ∃ t, Ev (fun k => laws_markText.l0 k (x : Int) acc) t := by
    intro f
    induction f with
    | zero =>
      intro x acc hx hf ha
      refine ⟨_, Ev.step (fun k => ?_) (Ev.now ((⟨#[109]⟩ : ByteArray) ++ acc))⟩
      simp only [laws_markText.l0]
      rw [if_neg (by omega), if_pos (by omega)]
    | succ f ih =>
      intro x acc hx hf ha
      by_cases h : x = 0
      · refine ⟨_, Ev.step (fun k => ?_) (Ev.now ((⟨#[109]⟩ : ByteArray) ++ acc))⟩
        simp only [laws_markText.l0]
        rw [if_neg (by omega), if_pos (by omega)]
      · have hp : 10 ^ (f + 1) = 10 * 10 ^ f := by rw [Nat.pow_succ]; omega
        have hs : ∀ c : Int, (strOfNums [c]).size = 1 := fun c => by rw [strOfNums_size]; rfl
        obtain ⟨t, ht⟩ := ih (x / 10) (strOfNums [(wrap64 (48 + (Int.tmod (x : Int) 10))) % 256] ++ acc) (by omega) (by omega) (by rw [ByteArray.size_append, hs]; omega)
        refine ⟨t, Ev.step (fun k => ?_) ht⟩
        simp only [laws_markText.l0, Option.bind_some]
        rw [if_pos (by omega), if_pos (by rw [hs]; omega), Int.tdiv_eq_ediv_of_nonneg (by omega), w64 (x := (x : Int) / 10) (by omega) (by omega)]
        rfl
  unfold laws_markText.f
  by_cases h : (m : Int) ≤ 0
  · simp only [if_pos h]
    exact ⟨_, Ev.now _⟩
  · simp only [if_neg h]
    exact key 13 m _ (by omega) hm (by decide)
theorem markText_fun : ∃ T : Nat → ByteArray, ∀ m : Nat, m ≤ 1000000000000 → Ev (fun k => laws_markText.f k (m : Int)) (T m) := by
  refine ⟨fun m => if h : m ≤ 1000000000000 then Classical.choose (markText_ex m h) else ByteArray.empty, fun m h => ?_⟩
  simp only [dif_pos h]
  exact Classical.choose_spec (markText_ex m h)
def marked (T : Nat → ByteArray) (m n : Nat) : List ByteArray := (List.range n).map fun i => T (m + i)
theorem marked_length (T : Nat → ByteArray) (m n : Nat) : (marked T m n).length = n := by simp [marked]
theorem markS_ev (T : Nat → ByteArray) (hT : ∀ m : Nat, m ≤ 1000000000000 → Ev (fun k => laws_markText.f k (m : Int)) (T m)) (l : List ByteArray) (m : Nat) (hl : l.length + m ≤ 1000000000000) :
    Ev (fun k => laws_markStringS.f k l (m : Int)) (((m + l.length : Nat) : Int), marked T m l.length) := by
  have key : ∀ d (i : Nat), i ≤ l.length → l.length - i = d → Ev (fun k => laws_markStringS.l0 k (marked T m i ++ l.drop i) ((m + i : Nat) : Int) (i : Int)) (((m + l.length : Nat) : Int), marked T m l.length) := by
    intro d
    induction d with
    | zero =>
      intro i hi hd
      obtain rfl : i = l.length := by omega
      rw [List.drop_length, List.append_nil]
      exact Ev.step (f := fun _ => some (((m + l.length : Nat) : Int), marked T m l.length)) (fun k => by simp only [laws_markStringS.l0]; rw [marked_length, if_neg (by omega)]) (Ev.now _)
    | succ d ih =>
      intro i hi hd
      have hlen : (marked T m i ++ l.drop i).length = l.length := by rw [List.length_append, marked_length, List.length_drop]; omega
      have hset : (marked T m i ++ l.drop i).set i (T (m + i)) = marked T m (i + 1) ++ l.drop (i + 1) := by
        rw [List.set_append_right _ _ (by rw [marked_length]; omega), marked_length, Nat.sub_self, List.drop_eq_getElem_cons (by omega), List.set_cons_zero]
        simp [marked, List.range_succ]
      refine Ev.step (fun k => ?_) (Ev.bind (hT (m + i) (by omega)) (f := fun k t => laws_markStringS.l0 k ((marked T m i ++ l.drop i).set i t) ((m + (i + 1) : Nat) : Int) ((i + 1 : Nat) : Int)) ?_)
      · simp only [laws_markStringS.l0]
        rw [hlen, if_pos (by omega), wsucc (n := m + i) (by omega), wsucc (n := i) (by omega)]
        simp only [if_pos (show 0 ≤ (i : Int) by omega), Int.toNat_natCast]
        rfl
      · simp only [hset]
        exact ih (i + 1) (by omega) (by omega)
  have := key l.length 0 (by omega) (by omega)
  exact this
theorem heldS_ev (T : Nat → ByteArray) (hT : ∀ m : Nat, m ≤ 1000000000000 → Ev (fun k => laws_markText.f k (m : Int)) (T m)) (n m : Nat) (hl : n + m ≤ 1000000000000) :
    Ev (fun k => laws_heldStringS.f k (marked T m n) (m : Int)) ((m + n : Nat) : Int) := by
  have key : ∀ d (i : Nat), i ≤ n → n - i = d → Ev (fun k => laws_heldStringS.l0 k (marked T m n) ((m + i : Nat) : Int) (i : Int)) ((m + n : Nat) : Int) := by
    intro d
    induction d with
    | zero =>
      intro i hi hd
      obtain rfl : i = n := by omega
      exact Ev.step (f := fun _ => some ((m + i : Nat) : Int)) (fun k => by simp only [laws_heldStringS.l0]; rw [marked_length, if_neg (by omega)]) (Ev.now _)
    | succ d ih =>
      intro i hi hd
      have hg : rdOf ByteArray.empty (marked T m n) (i : Int) = T (m + i) := by
        rw [rdB_nat (by rw [marked_length]; omega)]
        simp [marked]
      refine Ev.step (fun k => ?_) (Ev.bind (hT (m + i) (by omega)) (f := fun k t => if (T (m + i)).toList = t.toList then laws_heldStringS.l0 k (marked T m n) ((m + (i + 1) : Nat) : Int) ((i + 1 : Nat) : Int) else some (-1)) ?_)
      · simp only [laws_heldStringS.l0]
        rw [marked_length, if_pos (by omega), if_pos (by omega), hg, wsucc (n := m + i) (by omega), wsucc (n := i) (by omega)]
        rfl
      · simp only [if_true]
        exact ih (i + 1) (by omega) (by omega)
  exact key n 0 (by omega) (by omega)

theorem FnExactUnframe : laws_FnExactUnframe.Pure := by
  intro s hs
  refine Ev.rounds ?_
  unfold laws_FnExactUnframe.f
  by_cases h : (s.size : Int) > 1048576
  · simp only [if_pos h]
    exact Ev.now _
  · simp only [if_neg h]
    have hlen : (unframeV s).1.length ≤ 20001 := by
      unfold unframeV
      split
      · simp
      · have := unfF_len (s.size + 1) s [] 0
        simp at this
        omega
    obtain ⟨T, hT⟩ := markText_fun
    refine Ev.bind (spec_Unframe_ev s) (Ev.bind (impl_Unframe_ev s) (Ev.bind (eqS_ev _ (by omega)) ?_))
    simp only [if_true, bne_self_eq_false]
    refine Ev.step (fun k => by simp only [laws_FnExactUnframe.j0, Bool.false_eq_true, if_false]; rfl) ?_
    refine Ev.bind (markS_ev T hT _ 1 (by omega)) (Ev.bind (heldS_ev T hT _ 1 (by omega)) ?_)
    simp only [if_neg (show ¬ ((1 + (unframeV s).1.length : Nat) : Int) < 0 by omega), if_true]
    refine Ev.bind (impl_Unframe_ev s) (Ev.bind (eqS_ev _ (by omega)) ?_)
    simp only [if_true, bne_self_eq_false]
    refine Ev.step (fun k => by simp only [laws_FnExactUnframe.j1, Bool.false_eq_true, if_false]; rfl) ?_
    refine Ev.bind (heldS_ev T hT _ 1 (by omega)) ?_
    simp only [if_neg (show ¬ ((1 + (unframeV s).1.length : Nat) : Int) < 0 by omega), if_true]
    exact Ev.now _


end Go.Proofs.Ytilhajijfbpcjaa.Pure
