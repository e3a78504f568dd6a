/- The program's Frame and the reference's Frame return the same, for every text. -/
import Derived.Test.YtilhajijfbpcjaaPFnExactFramex2
set_option linter.unusedVariables false
set_option linter.unusedSimpArgs false
namespace Go.Proofs.Ytilhajijfbpcjaa.Pure
open Go.RowKit Go.Proofs.Ytilhajijfbpcjaa.PFnExactFrame Go.Proofs.YtilhajijfbpcjaaW.PrintWords Go.Proofs.YtilhajijfbpcjaaW.PrintLast

/-! ### small words -/
theorem w64 {x : Int} (h0 : -9223372036854775808 ≤ x) (h1 : x ≤ 9223372036854775807) : wrap64 x = x := by
  unfold wrap64
  omega
theorem wf64 {x : Int} (h : (Lit.int .i64 x).wf = true) : -9223372036854775808 ≤ x ∧ x ≤ 9223372036854775807 := by
  simp [Lit.wf, IntKind.min, IntKind.max, IntKind.signed, IntKind.bits] at h
  omega
theorem wfu32 {x : Int} (h : (Lit.int .u32 x).wf = true) : 0 ≤ x ∧ x ≤ 4294967295 := by
  simp [Lit.wf, IntKind.min, IntKind.max, IntKind.signed, IntKind.bits] at h
  omega
theorem wfu8 {x : Int} (h : (Lit.int .u8 x).wf = true) : 0 ≤ x ∧ x ≤ 255 := by
  simp [Lit.wf, IntKind.min, IntKind.max, IntKind.signed, IntKind.bits] at h
  omega
theorem wsucc {n : Nat} (h : n ≤ 4611686018427387904) : wrap64 ((n : Int) + 1) = ((n + 1 : Nat) : Int) := by
  rw [w64 (by omega) (by omega)]
  rfl
theorem wadd {a b : Nat} (h : a + b ≤ 4611686018427387904) : wrap64 ((a : Int) + (b : Int)) = ((a + b : Nat) : Int) := by
  rw [w64 (by omega) (by omega)]
  rfl
theorem wnat {n : Nat} (h : n ≤ 4611686018427387904) : wrap64 (n : Int) = (n : Int) := w64 (by omega) (by omega)

theorem strOfNums_size (xs : List Int) : (strOfNums xs).size = xs.length := by simp [strOfNums, ByteArray.size]
theorem str_ext {a b : ByteArray} (h : a.data.toList = b.data.toList) : a = b := by
  apply ByteArray.ext
  exact Array.toList_inj.1 h
theorem str_app (a b : ByteArray) : (a ++ b).data.toList = a.data.toList ++ b.data.toList := by simp [ByteArray.data_append]
theorem str_cut (s : ByteArray) (a b : Nat) : (s.extract a b).data.toList = (s.data.toList.drop a).take (b - a) := by
  obtain ⟨⟨l⟩⟩ := s
  simp [ByteArray.data_extract, List.extract_eq_take_drop]
theorem str_len (s : ByteArray) : s.data.toList.length = s.size := rfl
theorem str_toList {a b : ByteArray} : a.toList = b.toList ↔ a = b := by
  rw [ByteArray.toList_eq, ByteArray.toList_eq]
  exact ⟨str_ext, fun h => by rw [h]⟩
theorem str_split (s : ByteArray) (n : Nat) (h : n ≤ s.size) : s.extract 0 n ++ s.extract n s.size = s := by
  apply str_ext
  rw [str_app, str_cut, str_cut, List.drop_zero, Nat.sub_zero, List.take_of_length_le (l := s.data.toList.drop n) (by simp [str_len]), List.take_append_drop]
theorem str_app_inj {a b c : ByteArray} (h : a ++ b = a ++ c) : b = c := by
  have := congrArg (fun s : ByteArray => s.data.toList) h
  simp only [str_app] at this
  exact str_ext (List.append_cancel_left this)
theorem cut_size (s : ByteArray) {n : Nat} (h : n ≤ s.size) : (s.extract 0 n).size = n := by
  rw [ByteArray.size_extract]
  omega

theorem spec_l01In_eq (a l h : Int) : spec_l01In.f a l h = some (decide (l ≤ a ∧ a ≤ h)) := by
  unfold spec_l01In.f
  by_cases h1 : l ≤ a
  · rw [if_pos h1]; simp [h1]
  · rw [if_neg h1]; simp [h1]

theorem impl_within_eq (a l h : Int) : impl_within.f a l h = some (decide (l ≤ a ∧ a ≤ h)) := by
  unfold impl_within.f
  by_cases h1 : l ≤ a
  · rw [if_pos h1]; simp [h1]
  · rw [if_neg h1]; simp [h1]

/-! ### sums of 32 bits, over natural numbers -/
def half (s : Nat) : Nat := if s % 2 = 1 then (s / 2) ^^^ 3558460437 else s / 2
def halves : Nat → Nat → Nat
  | 0, s => s
  | n + 1, s => halves n (half s)
def sumN (s : Nat) : List UInt8 → Nat
  | [] => s
  | b :: bs => sumN (halves 8 (s ^^^ b.toNat)) bs

theorem bits_xor32 {a b : Nat} (ha : a < 2 ^ 32) (hb : b < 2 ^ 32) : Go.bits .xor .u32 (a : Int) (b : Int) = ((a ^^^ b : Nat) : Int) := by
  have hx : a ^^^ b < 2 ^ 32 := Nat.xor_lt_two_pow ha hb
  have e : (BitVec.ofNat 32 a ^^^ BitVec.ofNat 32 b).toNat = a ^^^ b := by rw [BitVec.toNat_xor, BitVec.toNat_ofNat, BitVec.toNat_ofNat, Nat.mod_eq_of_lt ha, Nat.mod_eq_of_lt hb]
  show IntKind.u32.wrap (((BitVec.ofInt 32 (a : Int)) ^^^ (BitVec.ofInt 32 (b : Int))).toNat : Int) = _
  rw [BitVec.ofInt_natCast, BitVec.ofInt_natCast, e, IntKind.wrap_u32]
  omega
theorem half_lt {s : Nat} (h : s < 2 ^ 32) : half s < 2 ^ 32 := by
  unfold half
  split
  · exact Nat.xor_lt_two_pow (by omega) (by omega)
  · omega
theorem halves_lt (n : Nat) : ∀ {s : Nat}, s < 2 ^ 32 → halves n s < 2 ^ 32 := by
  induction n with
  | zero => intro s h; exact h
  | succ n ih => intro s h; exact ih (half_lt h)
theorem byte_lt (b : UInt8) : b.toNat < 2 ^ 32 := by have := b.toNat_lt; omega
theorem sumN_lt (l : List UInt8) : ∀ {s : Nat}, s < 2 ^ 32 → sumN s l < 2 ^ 32 := by
  induction l with
  | nil => intro s h; exact h
  | cons b l ih => intro s h; exact ih (halves_lt 8 (Nat.xor_lt_two_pow h (byte_lt b)))
theorem sumN_append (l m : List UInt8) : ∀ s, sumN s (l ++ m) = sumN (sumN s l) m := by
  induction l with
  | nil => intro s; rfl
  | cons b l ih => intro s; exact ih _
theorem bt_nat (s : ByteArray) {i : Nat} (h : i < s.size) : bt s (i : Int) = ((s.data.toList[i]'(by simpa using h)).toNat : Int) := by
  unfold bt
  rw [dif_pos (by simpa using h)]
  rfl
theorem drop_cons (s : ByteArray) {i : Nat} (h : i < s.size) : s.data.toList.drop i = (s.data.toList[i]'(by simpa using h)) :: s.data.toList.drop (i + 1) := List.drop_eq_getElem_cons (by simpa using h)

theorem half_int {s : Nat} (hs : s < 2 ^ 32) : (if Int.tmod (s : Int) 2 = 1 then Go.bits .xor .u32 ((Int.tdiv (s : Int) 2) % 4294967296) 3558460437 else (Int.tdiv (s : Int) 2) % 4294967296) = ((half s : Nat) : Int) := by
  have h1 : Int.tmod (s : Int) 2 = ((s % 2 : Nat) : Int) := by rw [Int.tmod_eq_emod_of_nonneg (by omega)]; rfl
  have h2 : (Int.tdiv (s : Int) 2) % 4294967296 = ((s / 2 : Nat) : Int) := by rw [Int.tdiv_eq_ediv_of_nonneg (by omega)]; omega
  rw [h1, h2]
  unfold half
  by_cases h : s % 2 = 1
  · rw [if_pos (by omega), if_pos h]
    exact bits_xor32 (by omega) (b := 3558460437) (by omega)
  · rw [if_neg (by omega), if_neg h]

theorem spec_SumMore_l1 (x : ByteArray) (i r : Int) (d : Nat) : ∀ (s : Nat), d ≤ 8 → s < 2 ^ 32 → Ev (fun k => spec_SumMore.l0 k ((halves d s : Nat) : Int) x (wrap64 (i + 1))) r →
    Ev (fun k => spec_SumMore.l1 k (s : Int) x i ((8 - d : Nat) : Int)) r := by
  induction d with
  | zero =>
    intro s hd hs h
    exact Ev.step (fun k => by simp only [spec_SumMore.l1]; rw [if_neg (by omega)]; rfl) h
  | succ d ih =>
    intro s hd hs h
    refine Ev.step (f := fun k => spec_SumMore.l1 k ((half s : Nat) : Int) x i ((8 - d : Nat) : Int)) (fun k => ?_) (ih _ (by omega) (half_lt hs) h)
    simp only [spec_SumMore.l1]
    rw [if_pos (by omega), w64 (by omega) (by omega), ← half_int hs, show ((8 - (d + 1) : Nat) : Int) + 1 = ((8 - d : Nat) : Int) by omega]
    split <;> rfl
theorem spec_SumMore_l0 (x : ByteArray) (hx : x.size ≤ 140737488351232) (d : Nat) : ∀ (s i : Nat), i ≤ x.size → x.size - i = d → s < 2 ^ 32 →
    Ev (fun k => spec_SumMore.l0 k (s : Int) x (i : Int)) ((sumN s (x.data.toList.drop i) : Nat) : Int) := by
  induction d with
  | zero =>
    intro s i hi hd hs
    have hn : x.data.toList.drop i = [] := List.drop_eq_nil_of_le (by simp; omega)
    rw [hn]
    exact Ev.step (f := fun _ => some (s : Int)) (fun k => by simp only [spec_SumMore.l0]; rw [if_neg (by omega)]) (Ev.now _)
  | succ d ih =>
    intro s i hi hd hs
    have hlt : i < x.size := by omega
    have hb := byte_lt (x.data.toList[i]'(by simpa using hlt))
    rw [drop_cons x hlt]
    refine Ev.step (f := fun k => spec_SumMore.l1 k ((s ^^^ (x.data.toList[i]'(by simpa using hlt)).toNat : Nat) : Int) x (i : Int) ((8 - 8 : Nat) : Int)) (fun k => ?_) (spec_SumMore_l1 x i _ 8 _ (Nat.le_refl _) (Nat.xor_lt_two_pow hs hb) ?_)
    · simp only [spec_SumMore.l0]
      rw [if_pos (by omega), if_pos (by omega), bt_nat x hlt, ← bits_xor32 hs hb, Int.emod_eq_of_lt (by omega) (by omega)]
      rfl
    · rw [w64 (by omega) (by omega)]
      exact ih _ (i + 1) (by omega) (by omega) (halves_lt 8 (Nat.xor_lt_two_pow hs hb))
theorem spec_SumMore_ev (x : ByteArray) (hx : x.size ≤ 140737488351232) {s : Nat} (hs : s < 2 ^ 32) : Ev (fun k => spec_SumMore.f k (s : Int) x) ((sumN s x.data.toList : Nat) : Int) := by
  have h := spec_SumMore_l0 x hx x.size s 0 (by omega) (by omega) hs
  rw [List.drop_zero] at h
  exact h

theorem impl_SumMore_l1 (x : ByteArray) (i r : Int) (d : Nat) : ∀ (s : Nat), d ≤ 8 → s < 2 ^ 32 → Ev (fun k => impl_SumMore.l0 k ((halves d s : Nat) : Int) x (wrap64 (i + 1))) r →
    Ev (fun k => impl_SumMore.l1 k (s : Int) x i ((8 - d : Nat) : Int)) r := by
  induction d with
  | zero =>
    intro s hd hs h
    exact Ev.step (fun k => by simp only [impl_SumMore.l1]; rw [if_neg (by omega)]; rfl) h
  | succ d ih =>
    intro s hd hs h
    refine Ev.step (f := fun k => impl_SumMore.l1 k ((half s : Nat) : Int) x i ((8 - d : Nat) : Int)) (fun k => ?_) (ih _ (by omega) (half_lt hs) h)
    simp only [impl_SumMore.l1]
    rw [if_pos (by omega), w64 (by omega) (by omega), ← half_int hs, show ((8 - (d + 1) : Nat) : Int) + 1 = ((8 - d : Nat) : Int) by omega]
    split <;> rfl
theorem impl_SumMore_l0 (x : ByteArray) (hx : x.size ≤ 140737488351232) (d : Nat) : ∀ (s i : Nat), i ≤ x.size → x.size - i = d → s < 2 ^ 32 →
    Ev (fun k => impl_SumMore.l0 k (s : Int) x (i : Int)) ((sumN s (x.data.toList.drop i) : Nat) : Int) := by
  induction d with
  | zero =>
    intro s i hi hd hs
    have hn : x.data.toList.drop i = [] := List.drop_eq_nil_of_le (by simp; omega)
    rw [hn]
    exact Ev.step (f := fun _ => some (s : Int)) (fun k => by simp only [impl_SumMore.l0]; rw [if_neg (by omega)]) (Ev.now _)
  | succ d ih =>
    intro s i hi hd hs
    have hlt : i < x.size := by omega
    have hb := byte_lt (x.data.toList[i]'(by simpa using hlt))
    rw [drop_cons x hlt]
    refine Ev.step (f := fun k => impl_SumMore.l1 k ((s ^^^ (x.data.toList[i]'(by simpa using hlt)).toNat : Nat) : Int) x (i : Int) ((8 - 8 : Nat) : Int)) (fun k => ?_) (impl_SumMore_l1 x i _ 8 _ (Nat.le_refl _) (Nat.xor_lt_two_pow hs hb) ?_)
    · simp only [impl_SumMore.l0]
      rw [if_pos (by omega), if_pos (by omega), bt_nat x hlt, ← bits_xor32 hs hb, Int.emod_eq_of_lt (by omega) (by omega)]
      rfl
    · rw [w64 (by omega) (by omega)]
      exact ih _ (i + 1) (by omega) (by omega) (halves_lt 8 (Nat.xor_lt_two_pow hs hb))
theorem impl_SumMore_ev (x : ByteArray) (hx : x.size ≤ 140737488351232) {s : Nat} (hs : s < 2 ^ 32) : Ev (fun k => impl_SumMore.f k (s : Int) x) ((sumN s x.data.toList : Nat) : Int) := by
  have h := impl_SumMore_l0 x hx x.size s 0 (by omega) (by omega) hs
  rw [List.drop_zero] at h
  exact h

def sumT (x : ByteArray) : Nat := sumN 4294967295 x.data.toList
theorem sumT_lt (x : ByteArray) : sumT x < 2 ^ 32 := sumN_lt _ (by omega)
theorem spec_SumOf_ev (x : ByteArray) (hx : x.size ≤ 140737488351232) : Ev (fun k => spec_SumOf.f k x) ((sumT x : Nat) : Int) := by
  unfold spec_SumOf.f
  exact Ev.bind (spec_SumMore_ev x hx (s := 4294967295) (by omega)) (Ev.now _)
theorem impl_SumOf_ev (x : ByteArray) (hx : x.size ≤ 140737488351232) : Ev (fun k => impl_SumOf.f k x) ((sumT x : Nat) : Int) := by
  unfold impl_SumOf.f
  exact Ev.bind (impl_SumMore_ev x hx (s := 4294967295) (by omega)) (Ev.now _)

def four (n : Nat) : ByteArray := strOfNums [((n : Int) / 16777216) % 256, ((n : Int) / 65536) % 256, ((n : Int) / 256) % 256, (n : Int) % 256]
theorem four_size (n : Nat) : (four n).size = 4 := by simp [four, strOfNums_size]
def sealedV (s : ByteArray) : ByteArray × Bool := if (s.size : Int) > 20000 then ((⟨#[]⟩ : ByteArray), false) else (s ++ four (sumT s), true)

/-! ### numbers in bytes -/
/-- The bytes of a number below 128 ^ (f + 1). -/
def varF : Nat → Nat → List Int
  | 0, n => [(n : Int)]
  | f + 1, n => if 127 < n then ((n % 128 + 128 : Nat) : Int) :: varF f (n / 128) else [(n : Int)]
theorem varF_length (f : Nat) : ∀ n, 1 ≤ (varF f n).length ∧ (varF f n).length ≤ f + 1 := by
  induction f with
  | zero => intro n; simp [varF]
  | succ f ih =>
    intro n
    unfold varF
    have := ih (n / 128)
    split
    · simp; omega
    · simp
/-- The text of a number. -/
def varS (n : Nat) : ByteArray := strOfNums (varF 4 n)
theorem varS_size (n : Nat) : 1 ≤ (varS n).size ∧ (varS n).size ≤ 5 := by
  unfold varS
  rw [strOfNums_size]
  exact varF_length 4 n
theorem var_byte {n : Nat} (h : 127 < n) (hn : n < 1000000000000) : (wrap64 ((Int.tmod (n : Int) 128) + 128)) % 256 = ((n % 128 + 128 : Nat) : Int) := by
  rw [Int.tmod_eq_emod_of_nonneg (by omega), w64 (by omega) (by omega)]
  omega
theorem var_next {n : Nat} (hn : n < 1000000000000) : wrap64 (Int.tdiv (n : Int) 128) = ((n / 128 : Nat) : Int) := by
  rw [Int.tdiv_eq_ediv_of_nonneg (by omega), w64 (by omega) (by omega)]
  rfl
def varTextV (n : Int) : ByteArray × Bool := if 0 ≤ n ∧ n ≤ 1000000000 then (varS n.toNat, true) else ((⟨#[]⟩ : ByteArray), false)
theorem varTextV_pos {n : Nat} (h : n ≤ 1000000000) : varTextV (n : Int) = (varS n, true) := by
  unfold varTextV
  rw [if_pos (by omega), Int.toNat_natCast]
theorem varTextV_neg {n : Nat} (h : ¬ n ≤ 1000000000) : varTextV (n : Int) = ((⟨#[]⟩ : ByteArray), false) := by
  unfold varTextV
  rw [if_neg (by omega)]
theorem varS_len (n : Nat) : (varS n).size = (varF 4 n).length := strOfNums_size _

theorem spec_l01Var_l0 (f : Nat) : ∀ (n : Nat) (acc : List Int), n < 128 ^ (f + 1) → f ≤ 4 → acc.length + f < 1000 → Ev (fun k => spec_l01Var.l0 k (n : Int) acc) (strOfNums (acc ++ varF f n)) := by
  induction f with
  | zero =>
    intro n acc hn hf ha
    refine Ev.step (f := fun _ => some (strOfNums (acc ++ [(n : Int)]))) (fun k => ?_) (Ev.now _)
    simp only [spec_l01Var.l0]
    rw [if_neg (by omega), if_pos (by omega), Int.emod_eq_of_lt (by omega) (by omega)]
  | succ f ih =>
    intro n acc hn hf ha
    have h5 : 128 ^ (f + 1 + 1) ≤ 128 ^ 5 := Nat.pow_le_pow_right (by omega) (by omega)
    have hp : 128 ^ (f + 1 + 1) = 128 * 128 ^ (f + 1) := by rw [Nat.pow_succ]; omega
    unfold varF
    by_cases h : 127 < n
    · rw [if_pos h]
      refine Ev.step (f := fun k => spec_l01Var.l0 k ((n / 128 : Nat) : Int) (acc ++ [((n % 128 + 128 : Nat) : Int)])) (fun k => ?_) ?_
      · simp only [spec_l01Var.l0]
        rw [if_pos (by omega), if_pos (by omega), var_byte h (by omega), var_next (by omega)]
      · have := ih (n / 128) (acc ++ [((n % 128 + 128 : Nat) : Int)]) (by omega) (by omega) (by simp; omega)
        rw [List.append_assoc, List.singleton_append] at this
        exact this
    · rw [if_neg h]
      refine Ev.step (f := fun _ => some (strOfNums (acc ++ [(n : Int)]))) (fun k => ?_) (Ev.now _)
      simp only [spec_l01Var.l0]
      rw [if_neg (by omega), if_pos (by omega), Int.emod_eq_of_lt (by omega) (by omega)]
theorem spec_l01Var_ev {n : Nat} (h : n < 128 ^ 5) : Ev (fun k => spec_l01Var.f k (n : Int)) (varS n) := spec_l01Var_l0 4 n [] h (by omega) (by simp)

theorem impl_VarText_l0 (f : Nat) : ∀ (n : Nat) (acc : List Int), n < 128 ^ (f + 1) → f ≤ 4 → acc.length + f < 1000 → Ev (fun k => impl_VarText.l0 k (n : Int) acc) (strOfNums (acc ++ varF f n), true) := by
  induction f with
  | zero =>
    intro n acc hn hf ha
    refine Ev.step (f := fun _ => some (strOfNums (acc ++ [(n : Int)]), true)) (fun k => ?_) (Ev.now _)
    simp only [impl_VarText.l0]
    rw [if_neg (by omega), if_pos (by omega), Int.emod_eq_of_lt (by omega) (by omega)]
  | succ f ih =>
    intro n acc hn hf ha
    have h5 : 128 ^ (f + 1 + 1) ≤ 128 ^ 5 := Nat.pow_le_pow_right (by omega) (by omega)
    have hp : 128 ^ (f + 1 + 1) = 128 * 128 ^ (f + 1) := by rw [Nat.pow_succ]; omega
    unfold varF
    by_cases h : 127 < n
    · rw [if_pos h]
      refine Ev.step (f := fun k => impl_VarText.l0 k ((n / 128 : Nat) : Int) (acc ++ [((n % 128 + 128 : Nat) : Int)])) (fun k => ?_) ?_
      · simp only [impl_VarText.l0]
        rw [if_pos (by omega), if_pos (by omega), var_byte h (by omega), var_next (by omega)]
      · have := ih (n / 128) (acc ++ [((n % 128 + 128 : Nat) : Int)]) (by omega) (by omega) (by simp; omega)
        rw [List.append_assoc, List.singleton_append] at this
        exact this
    · rw [if_neg h]
      refine Ev.step (f := fun _ => some (strOfNums (acc ++ [(n : Int)]), true)) (fun k => ?_) (Ev.now _)
      simp only [impl_VarText.l0]
      rw [if_neg (by omega), if_pos (by omega), Int.emod_eq_of_lt (by omega) (by omega)]
theorem impl_VarText_ev (n : Int) : Ev (fun k => impl_VarText.f k n) (varTextV n) := by
  unfold varTextV impl_VarText.f
  simp only [impl_within_eq, Option.bind_some, decide_eq_true_eq]
  by_cases h : 0 ≤ n ∧ n ≤ 1000000000
  · simp only [if_pos h]
    obtain ⟨m, rfl⟩ := Int.eq_ofNat_of_zero_le h.1
    exact impl_VarText_l0 4 m [] (by omega) (by omega) (by simp)
  · simp only [if_neg h]
    exact Ev.now _

def frameV (s : ByteArray) : ByteArray × Bool := if 1 ≤ (s.size : Int) ∧ (s.size : Int) ≤ 9000 then (varS s.size ++ four (sumT s) ++ s, true) else ((⟨#[]⟩ : ByteArray), false)

theorem spec_Frame_ev (s : ByteArray) : Ev (fun k => spec_Frame.f k s) (frameV s) := by
  unfold spec_Frame.f spec_l02Four.f frameV
  simp only [spec_l01In_eq, Option.bind_some, decide_eq_true_eq]
  by_cases h : 1 ≤ (s.size : Int) ∧ (s.size : Int) ≤ 9000
  · simp only [if_pos h]
    refine Ev.bind (spec_l01Var_ev (by omega)) (Ev.bind (spec_SumOf_ev s (by omega)) ?_)
    have h4 := four_size (sumT s)
    have h5 := varS_size s.size
    have e1 : (varS s.size).size + (four (sumT s)).size ≤ 9223372036854775807 := by omega
    have e2 : (varS s.size ++ four (sumT s)).size + s.size ≤ 9223372036854775807 := by rw [ByteArray.size_append]; omega
    unfold four at e1 e2 ⊢
    simp only [if_pos e1, if_pos e2]
    exact Ev.now _
  · simp only [if_neg h]
    exact Ev.now _

theorem impl_Frame_ev (s : ByteArray) : Ev (fun k => impl_Frame.f k s) (frameV s) := by
  unfold impl_Frame.f frameV
  simp only [impl_within_eq, Option.bind_some, decide_eq_true_eq]
  by_cases h : 1 ≤ (s.size : Int) ∧ (s.size : Int) ≤ 9000
  · simp only [if_pos h]
    refine Ev.bind (impl_VarText_ev (s.size : Int)) (Ev.bind (impl_SumOf_ev s (by omega)) ?_)
    rw [varTextV_pos (by omega)]
    have h4 := four_size (sumT s)
    have h5 := varS_size s.size
    have e1 : (varS s.size).size + (four (sumT s)).size ≤ 9223372036854775807 := by omega
    have e2 : (varS s.size ++ four (sumT s)).size + s.size ≤ 9223372036854775807 := by rw [ByteArray.size_append]; omega
    unfold four at e1 e2 ⊢
    simp only [if_pos e1, if_pos e2]
    exact Ev.now _
  · simp only [if_neg h]
    exact Ev.now _

theorem FnExactFrame : laws_FnExactFrame.Pure := by
  intro s hs
  refine Ev.rounds ?_
  unfold laws_FnExactFrame.f
  by_cases h : (s.size : Int) > 1048576
  · simp only [if_pos h]
    exact Ev.now _
  · simp only [if_neg h]
    refine Ev.bind (spec_Frame_ev s) (Ev.bind (impl_Frame_ev s) ?_)
    simp only [if_true, bne_self_eq_false, Bool.false_eq_true, if_false]
    exact Ev.now _


end Go.Proofs.Ytilhajijfbpcjaa.Pure
