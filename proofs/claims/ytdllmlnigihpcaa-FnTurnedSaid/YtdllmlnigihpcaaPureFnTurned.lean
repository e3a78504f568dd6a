/- A drawn text whose one byte is another is not Unsealed; it is Unsealed as it was sealed; SumMore goes on. -/
import Derived.Test.YtdllmlnigihpcaaXFnTurnedx2
set_option linter.unusedVariables false
set_option linter.unusedSimpArgs false
namespace Go.Proofs.Ytdllmlnigihpcaa.Pure
open Go.RowKit Go.Proofs.Ytdllmlnigihpcaa.XFnTurned Go.Proofs.YtdllmlnigihpcaaW.PrintWords Go.Proofs.YtdllmlnigihpcaaW.PrintLast

/-! ### small words -/
theorem w64 {x : Int} (h0 : -9223372036854775808 ≤ x) (h1 : x ≤ 9223372036854775807) : wrap64 x = x := by
  unfold wrap64
  omega
theorem wf64 {x : Int} (h : (Lit.int .i64 x).wf = true) : -9223372036854775808 ≤ x ∧ x ≤ 9223372036854775807 := by
  simp [Lit.wf, IntKind.min, IntKind.max, IntKind.signed, IntKind.bits] at h
  omega
theorem wfu32 {x : Int} (h : (Lit.int .u32 x).wf = true) : 0 ≤ x ∧ x ≤ 4294967295 := by
  simp [Lit.wf, IntKind.min, IntKind.max, IntKind.signed, IntKind.bits] at h
  omega
theorem wfu8 {x : Int} (h : (Lit.int .u8 x).wf = true) : 0 ≤ x ∧ x ≤ 255 := by
  simp [Lit.wf, IntKind.min, IntKind.max, IntKind.signed, IntKind.bits] at h
  omega
theorem wsucc {n : Nat} (h : n ≤ 4611686018427387904) : wrap64 ((n : Int) + 1) = ((n + 1 : Nat) : Int) := by
  rw [w64 (by omega) (by omega)]
  rfl
theorem wadd {a b : Nat} (h : a + b ≤ 4611686018427387904) : wrap64 ((a : Int) + (b : Int)) = ((a + b : Nat) : Int) := by
  rw [w64 (by omega) (by omega)]
  rfl
theorem wnat {n : Nat} (h : n ≤ 4611686018427387904) : wrap64 (n : Int) = (n : Int) := w64 (by omega) (by omega)
theorem Ev.some_bind {α β : Type} {a : Option α} {x : α} (h : a = some x) {f : Nat → α → Option β} {r : β} (k : Ev (fun n => f n x) r) : Ev (fun n => a.bind (f n)) r := by
  subst h
  exact k
theorem Ev.pos {α : Type} {p : Prop} [Decidable p] (h : p) {f g : Nat → Option α} {r : α} (k : Ev f r) : Ev (fun n => if p then f n else g n) r :=
  Ev.congr (fun _ => if_pos h) k
theorem Ev.neg {α : Type} {p : Prop} [Decidable p] (h : ¬ p) {f g : Nat → Option α} {r : α} (k : Ev g r) : Ev (fun n => if p then f n else g n) r :=
  Ev.congr (fun _ => if_neg h) k
theorem tmod_nat {x : Int} (h0 : 0 ≤ x) (N : Nat) : ∃ c : Nat, Int.tmod x ((N + 1 : Nat) : Int) = (c : Int) ∧ c ≤ N := by
  obtain ⟨c, hc⟩ := Int.eq_ofNat_of_zero_le (Int.tmod_nonneg ((N + 1 : Nat) : Int) h0)
  have hlt := Int.tmod_lt_of_pos x (show (0 : Int) < ((N + 1 : Nat) : Int) by omega)
  rw [hc] at hlt
  exact ⟨c, hc, by omega⟩

theorem strOfNums_size (xs : List Int) : (strOfNums xs).size = xs.length := by simp [strOfNums, ByteArray.size]
theorem str_ext {a b : ByteArray} (h : a.data.toList = b.data.toList) : a = b := by
  apply ByteArray.ext
  exact Array.toList_inj.1 h
theorem str_app (a b : ByteArray) : (a ++ b).data.toList = a.data.toList ++ b.data.toList := by simp [ByteArray.data_append]
theorem str_cut (s : ByteArray) (a b : Nat) : (s.extract a b).data.toList = (s.data.toList.drop a).take (b - a) := by
  obtain ⟨⟨l⟩⟩ := s
  simp [ByteArray.data_extract, List.extract_eq_take_drop]
theorem str_len (s : ByteArray) : s.data.toList.length = s.size := rfl
theorem str_toList {a b : ByteArray} : a.toList = b.toList ↔ a = b := by
  rw [ByteArray.toList_eq, ByteArray.toList_eq]
  exact ⟨str_ext, fun h => by rw [h]⟩
theorem str_split (s : ByteArray) (n : Nat) (h : n ≤ s.size) : s.extract 0 n ++ s.extract n s.size = s := by
  apply str_ext
  rw [str_app, str_cut, str_cut, List.drop_zero, Nat.sub_zero, List.take_of_length_le (l := s.data.toList.drop n) (by simp [str_len]), List.take_append_drop]
theorem str_app_inj {a b c : ByteArray} (h : a ++ b = a ++ c) : b = c := by
  have := congrArg (fun s : ByteArray => s.data.toList) h
  simp only [str_app] at this
  exact str_ext (List.append_cancel_left this)
theorem cut_size (s : ByteArray) {n : Nat} (h : n ≤ s.size) : (s.extract 0 n).size = n := by
  rw [ByteArray.size_extract]
  omega

/-! ### sums of 32 bits, over natural numbers -/
def half (s : Nat) : Nat := if s % 2 = 1 then (s / 2) ^^^ 3558460437 else s / 2
def halves : Nat → Nat → Nat
  | 0, s => s
  | n + 1, s => halves n (half s)
def sumN (s : Nat) : List UInt8 → Nat
  | [] => s
  | b :: bs => sumN (halves 8 (s ^^^ b.toNat)) bs

theorem bits_xor32 {a b : Nat} (ha : a < 2 ^ 32) (hb : b < 2 ^ 32) : Go.bits .xor .u32 (a : Int) (b : Int) = ((a ^^^ b : Nat) : Int) := by
  have hx : a ^^^ b < 2 ^ 32 := Nat.xor_lt_two_pow ha hb
  have e : (BitVec.ofNat 32 a ^^^ BitVec.ofNat 32 b).toNat = a ^^^ b := by rw [BitVec.toNat_xor, BitVec.toNat_ofNat, BitVec.toNat_ofNat, Nat.mod_eq_of_lt ha, Nat.mod_eq_of_lt hb]
  show IntKind.u32.wrap (((BitVec.ofInt 32 (a : Int)) ^^^ (BitVec.ofInt 32 (b : Int))).toNat : Int) = _
  rw [BitVec.ofInt_natCast, BitVec.ofInt_natCast, e, IntKind.wrap_u32]
  omega
theorem half_lt {s : Nat} (h : s < 2 ^ 32) : half s < 2 ^ 32 := by
  unfold half
  split
  · exact Nat.xor_lt_two_pow (by omega) (by omega)
  · omega
theorem halves_lt (n : Nat) : ∀ {s : Nat}, s < 2 ^ 32 → halves n s < 2 ^ 32 := by
  induction n with
  | zero => intro s h; exact h
  | succ n ih => intro s h; exact ih (half_lt h)
theorem byte_lt (b : UInt8) : b.toNat < 2 ^ 32 := by have := b.toNat_lt; omega
theorem sumN_lt (l : List UInt8) : ∀ {s : Nat}, s < 2 ^ 32 → sumN s l < 2 ^ 32 := by
  induction l with
  | nil => intro s h; exact h
  | cons b l ih => intro s h; exact ih (halves_lt 8 (Nat.xor_lt_two_pow h (byte_lt b)))
theorem sumN_append (l m : List UInt8) : ∀ s, sumN s (l ++ m) = sumN (sumN s l) m := by
  induction l with
  | nil => intro s; rfl
  | cons b l ih => intro s; exact ih _
theorem bt_nat (s : ByteArray) {i : Nat} (h : i < s.size) : bt s (i : Int) = ((s.data.toList[i]'(by simpa using h)).toNat : Int) := by
  unfold bt
  rw [dif_pos (by simpa using h)]
  rfl
theorem drop_cons (s : ByteArray) {i : Nat} (h : i < s.size) : s.data.toList.drop i = (s.data.toList[i]'(by simpa using h)) :: s.data.toList.drop (i + 1) := List.drop_eq_getElem_cons (by simpa using h)

theorem half_int {s : Nat} (hs : s < 2 ^ 32) : (if Int.tmod (s : Int) 2 = 1 then Go.bits .xor .u32 ((Int.tdiv (s : Int) 2) % 4294967296) 3558460437 else (Int.tdiv (s : Int) 2) % 4294967296) = ((half s : Nat) : Int) := by
  have h1 : Int.tmod (s : Int) 2 = ((s % 2 : Nat) : Int) := by rw [Int.tmod_eq_emod_of_nonneg (by omega)]; rfl
  have h2 : (Int.tdiv (s : Int) 2) % 4294967296 = ((s / 2 : Nat) : Int) := by rw [Int.tdiv_eq_ediv_of_nonneg (by omega)]; omega
  rw [h1, h2]
  unfold half
  by_cases h : s % 2 = 1
  · rw [if_pos (by omega), if_pos h]
    exact bits_xor32 (by omega) (b := 3558460437) (by omega)
  · rw [if_neg (by omega), if_neg h]

theorem impl_SumMore_l1 (x : ByteArray) (i r : Int) (d : Nat) : ∀ (s : Nat), d ≤ 8 → s < 2 ^ 32 → Ev (fun k => impl_SumMore.l0 k ((halves d s : Nat) : Int) x (wrap64 (i + 1))) r →
    Ev (fun k => impl_SumMore.l1 k (s : Int) x i ((8 - d : Nat) : Int)) r := by
  induction d with
  | zero =>
    intro s hd hs h
    exact Ev.step (fun k => by simp only [impl_SumMore.l1]; rw [if_neg (by omega)]; rfl) h
  | succ d ih =>
    intro s hd hs h
    refine Ev.step (f := fun k => impl_SumMore.l1 k ((half s : Nat) : Int) x i ((8 - d : Nat) : Int)) (fun k => ?_) (ih _ (by omega) (half_lt hs) h)
    simp only [impl_SumMore.l1]
    rw [if_pos (by omega), w64 (by omega) (by omega), ← half_int hs, show ((8 - (d + 1) : Nat) : Int) + 1 = ((8 - d : Nat) : Int) by omega]
    split <;> rfl
theorem impl_SumMore_l0 (x : ByteArray) (hx : x.size ≤ 140737488351232) (d : Nat) : ∀ (s i : Nat), i ≤ x.size → x.size - i = d → s < 2 ^ 32 →
    Ev (fun k => impl_SumMore.l0 k (s : Int) x (i : Int)) ((sumN s (x.data.toList.drop i) : Nat) : Int) := by
  induction d with
  | zero =>
    intro s i hi hd hs
    have hn : x.data.toList.drop i = [] := List.drop_eq_nil_of_le (by simp; omega)
    rw [hn]
    exact Ev.step (f := fun _ => some (s : Int)) (fun k => by simp only [impl_SumMore.l0]; rw [if_neg (by omega)]) (Ev.now _)
  | succ d ih =>
    intro s i hi hd hs
    have hlt : i < x.size := by omega
    have hb := byte_lt (x.data.toList[i]'(by simpa using hlt))
    rw [drop_cons x hlt]
    refine Ev.step (f := fun k => impl_SumMore.l1 k ((s ^^^ (x.data.toList[i]'(by simpa using hlt)).toNat : Nat) : Int) x (i : Int) ((8 - 8 : Nat) : Int)) (fun k => ?_) (impl_SumMore_l1 x i _ 8 _ (Nat.le_refl _) (Nat.xor_lt_two_pow hs hb) ?_)
    · simp only [impl_SumMore.l0]
      rw [if_pos (by omega), if_pos (by omega), bt_nat x hlt, ← bits_xor32 hs hb, Int.emod_eq_of_lt (by omega) (by omega)]
      rfl
    · rw [w64 (by omega) (by omega)]
      exact ih _ (i + 1) (by omega) (by omega) (halves_lt 8 (Nat.xor_lt_two_pow hs hb))
theorem impl_SumMore_ev (x : ByteArray) (hx : x.size ≤ 140737488351232) {s : Nat} (hs : s < 2 ^ 32) : Ev (fun k => impl_SumMore.f k (s : Int) x) ((sumN s x.data.toList : Nat) : Int) := by
  have h := impl_SumMore_l0 x hx x.size s 0 (by omega) (by omega) hs
  rw [List.drop_zero] at h
  exact h

def sumT (x : ByteArray) : Nat := sumN 4294967295 x.data.toList
theorem sumT_lt (x : ByteArray) : sumT x < 2 ^ 32 := sumN_lt _ (by omega)
theorem impl_SumOf_ev (x : ByteArray) (hx : x.size ≤ 140737488351232) : Ev (fun k => impl_SumOf.f k x) ((sumT x : Nat) : Int) := by
  unfold impl_SumOf.f
  exact Ev.bind (impl_SumMore_ev x hx (s := 4294967295) (by omega)) (Ev.now _)

def four (n : Nat) : ByteArray := strOfNums [((n : Int) / 16777216) % 256, ((n : Int) / 65536) % 256, ((n : Int) / 256) % 256, (n : Int) % 256]
theorem four_size (n : Nat) : (four n).size = 4 := by simp [four, strOfNums_size]
def sealedV (s : ByteArray) : ByteArray × Bool := if (s.size : Int) > 20000 then ((⟨#[]⟩ : ByteArray), false) else (s ++ four (sumT s), true)

theorem impl_Sealed_ev (s : ByteArray) : Ev (fun k => impl_Sealed.f k s) (sealedV s) := by
  unfold sealedV impl_Sealed.f 
  by_cases h : (s.size : Int) > 20000
  · simp only [if_pos h]
    exact Ev.now _
  · simp only [if_neg h]
    refine Ev.bind (impl_SumOf_ev s (by omega)) ?_
    have h4 := four_size (sumT s)
    unfold four at h4
    simp only [Option.bind_some, h4]
    simp only [if_pos (show s.size + 4 ≤ 9223372036854775807 by omega)]
    exact Ev.now _

def unsealedV (s : ByteArray) : ByteArray × Bool :=
  if 4 ≤ s.size ∧ s.size - 4 ≤ 20000 ∧ s.extract (s.size - 4) s.size = four (sumT (s.extract 0 (s.size - 4))) then (s.extract 0 (s.size - 4), true) else ((⟨#[]⟩ : ByteArray), false)
theorem unsealed_n {s : ByteArray} (hs : s.size ≤ 140737488351232) : wrap64 ((s.size : Int) - 4) = (s.size : Int) - 4 := w64 (by omega) (by omega)
theorem unsealed_nat {s : ByteArray} : ((s.size : Int) - 4).toNat = s.size - 4 := by omega

theorem impl_Unsealed_ev (s : ByteArray) (hs : s.size ≤ 140737488351232) : Ev (fun k => impl_Unsealed.f k s) (unsealedV s) := by
  unfold impl_Unsealed.f
  simp only [unsealed_n hs, unsealed_nat]
  by_cases h1 : 4 ≤ s.size
  · simp only [if_neg (show ¬ (s.size : Int) < 4 by omega), if_pos (show 0 ≤ (s.size : Int) - 4 by omega), if_pos (show (s.size : Int) - 4 ≤ (s.size : Int) by omega)]
    refine Ev.bind (impl_Sealed_ev (s.extract 0 (s.size - 4))) ?_
    have hc : (s.extract 0 (s.size - 4)).size = s.size - 4 := cut_size s (by omega)
    unfold sealedV
    rw [hc]
    by_cases h2 : s.size - 4 ≤ 20000
    · simp only [if_neg (show ¬ ((s.size - 4 : Nat) : Int) > 20000 by omega), if_true, str_toList]
      by_cases h3 : s.extract (s.size - 4) s.size = four (sumT (s.extract 0 (s.size - 4)))
      · rw [show unsealedV s = (s.extract 0 (s.size - 4), true) from if_pos ⟨h1, h2, h3⟩]
        simp only [if_pos (show s.extract 0 (s.size - 4) ++ four (sumT (s.extract 0 (s.size - 4))) = s by rw [← h3]; exact str_split s _ (by omega))]
        exact Ev.now _
      · rw [show unsealedV s = ((⟨#[]⟩ : ByteArray), false) from if_neg (fun h => h3 h.2.2)]
        simp only [if_neg (show ¬ s.extract 0 (s.size - 4) ++ four (sumT (s.extract 0 (s.size - 4))) = s from fun h => h3 (str_app_inj (h.trans (str_split s (s.size - 4) (by omega)).symm)).symm)]
        exact Ev.now _
    · rw [show unsealedV s = ((⟨#[]⟩ : ByteArray), false) from if_neg (fun h => h2 h.2.1)]
      simp only [if_pos (show ((s.size - 4 : Nat) : Int) > 20000 by omega), Bool.false_eq_true, if_false]
      exact Ev.now _
  · rw [show unsealedV s = ((⟨#[]⟩ : ByteArray), false) from if_neg (fun h => h1 h.1)]
    simp only [if_pos (show (s.size : Int) < 4 by omega)]
    exact Ev.now _

/-! ### lists of bytes as numbers -/
def ints (l : List UInt8) : List Int := l.map fun b => (b.toNat : Int)
theorem ints_length (l : List UInt8) : (ints l).length = l.length := by simp [ints]
theorem ints_app (l m : List UInt8) : ints (l ++ m) = ints l ++ ints m := by simp [ints]
theorem bytesOf_ints (s : ByteArray) : bytesOf s = ints s.data.toList := rfl
theorem str_ints (l : List UInt8) : strOfNums (ints l) = ⟨l.toArray⟩ := by
  unfold strOfNums ints
  congr 1
  rw [List.map_map]
  congr 1
  conv => rhs; rw [← List.map_id l]
  refine List.map_congr_left (fun b _ => ?_)
  simp
theorem set_mid {α : Type} (A : List α) (x v : α) (B : List α) : (A ++ x :: B).set A.length v = A ++ v :: B := by simp
theorem rd_mid (A : List Int) (x : Int) (B : List Int) : rd (A ++ x :: B) (A.length : Int) = x := by simp [rd]
theorem bt_mid (s : ByteArray) {A : List UInt8} {x : UInt8} {B : List UInt8} (h : s.data.toList = A ++ x :: B) : bt s (A.length : Int) = (x.toNat : Int) := by
  have hl : A.length < s.size := by
    have h1 : s.data.toList.length = s.size := rfl
    rw [h] at h1
    simp at h1
    omega
  unfold bt
  rw [dif_pos (by simpa using hl)]
  have e : s.data.toList[A.length]'(by simpa using hl) = x := by simp [h]
  show (((s.data[A.length]'hl).toNat : Nat) : Int) = _
  rw [← e]
  simp
theorem size_of_list (s : ByteArray) {l : List UInt8} (h : s.data.toList = l) : s.size = l.length := by
  have h1 : s.data.toList.length = s.size := rfl
  rw [h] at h1
  omega

/-! ### one byte that is another makes another sum -/
theorem xor_cancel {a b c : Nat} (h : a ^^^ c = b ^^^ c) : a = b := by
  have h2 := congrArg (· ^^^ c) h
  simpa [Nat.xor_assoc, Nat.xor_self] using h2
theorem half_top {s t : Nat} (hs : s < 2 ^ 32) (ht : t < 2 ^ 32) (h : (s / 2) ^^^ 3558460437 = t / 2) : False := by
  have h1 : ((s / 2) ^^^ 3558460437).testBit 31 = true := by
    rw [Nat.testBit_xor, Nat.testBit_lt_two_pow (show s / 2 < 2 ^ 31 by omega)]
    decide
  rw [h, Nat.testBit_lt_two_pow (show t / 2 < 2 ^ 31 by omega)] at h1
  cases h1
theorem half_inj {s t : Nat} (hs : s < 2 ^ 32) (ht : t < 2 ^ 32) (h : half s = half t) : s = t := by
  unfold half at h
  by_cases c1 : s % 2 = 1
  · by_cases c2 : t % 2 = 1
    · rw [if_pos c1, if_pos c2] at h
      have := xor_cancel h
      omega
    · rw [if_pos c1, if_neg c2] at h
      exact (half_top hs ht h).elim
  · by_cases c2 : t % 2 = 1
    · rw [if_neg c1, if_pos c2] at h
      exact (half_top ht hs h.symm).elim
    · rw [if_neg c1, if_neg c2] at h
      omega
theorem halves_inj (n : Nat) : ∀ {s t : Nat}, s < 2 ^ 32 → t < 2 ^ 32 → halves n s = halves n t → s = t := by
  induction n with
  | zero => intro s t _ _ h; exact h
  | succ n ih => intro s t hs ht h; exact half_inj hs ht (ih (half_lt hs) (half_lt ht) h)
theorem sumN_inj (l : List UInt8) : ∀ {s t : Nat}, s < 2 ^ 32 → t < 2 ^ 32 → sumN s l = sumN t l → s = t := by
  induction l with
  | nil => intro s t _ _ h; exact h
  | cons b l ih =>
    intro s t hs ht h
    exact xor_cancel (halves_inj 8 (Nat.xor_lt_two_pow hs (byte_lt b)) (Nat.xor_lt_two_pow ht (byte_lt b)) (ih (halves_lt 8 (Nat.xor_lt_two_pow hs (byte_lt b))) (halves_lt 8 (Nat.xor_lt_two_pow ht (byte_lt b))) h))
theorem sumN_byte (A B : List UInt8) {b c : UInt8} {s : Nat} (hs : s < 2 ^ 32) (h : sumN s (A ++ b :: B) = sumN s (A ++ c :: B)) : b = c := by
  rw [sumN_append, sumN_append] at h
  have hA := sumN_lt A hs
  have h1 := sumN_inj B (halves_lt 8 (Nat.xor_lt_two_pow hA (byte_lt b))) (halves_lt 8 (Nat.xor_lt_two_pow hA (byte_lt c))) h
  have h2 := halves_inj 8 (Nat.xor_lt_two_pow hA (byte_lt b)) (Nat.xor_lt_two_pow hA (byte_lt c)) h1
  rw [Nat.xor_comm _ b.toNat, Nat.xor_comm _ c.toNat] at h2
  exact UInt8.toNat_inj.1 (xor_cancel h2)
theorem four_list (n : Nat) : (four n).data.toList = [UInt8.ofNat (n / 16777216 % 256), UInt8.ofNat (n / 65536 % 256), UInt8.ofNat (n / 256 % 256), UInt8.ofNat (n % 256)] := by
  have e1 : (((n : Int) / 16777216) % 256).toNat = n / 16777216 % 256 := by omega
  have e2 : (((n : Int) / 65536) % 256).toNat = n / 65536 % 256 := by omega
  have e3 : (((n : Int) / 256) % 256).toNat = n / 256 % 256 := by omega
  have e4 : ((n : Int) % 256).toNat = n % 256 := by omega
  simp only [four, strOfNums, List.map_cons, List.map_nil, e1, e2, e3, e4]
theorem ofNat_inj {a b : Nat} (ha : a < 256) (hb : b < 256) (h : UInt8.ofNat a = UInt8.ofNat b) : a = b := by
  have h2 := congrArg UInt8.toNat h
  simp only [UInt8.toNat_ofNat'] at h2
  omega
theorem four_inj {n m : Nat} (hn : n < 2 ^ 32) (hm : m < 2 ^ 32) (h : four n = four m) : n = m := by
  have h2 := congrArg (fun s => s.data.toList) h
  simp only [four_list, List.cons.injEq, and_true] at h2
  obtain ⟨a, b, c, d⟩ := h2
  have a' := ofNat_inj (by omega) (by omega) a
  have b' := ofNat_inj (by omega) (by omega) b
  have c' := ofNat_inj (by omega) (by omega) c
  have d' := ofNat_inj (by omega) (by omega) d
  omega

theorem bits_xor8 (a b : UInt8) : Go.bits .xor .u8 (a.toNat : Int) (b.toNat : Int) = ((a ^^^ b).toNat : Int) := by
  have ha := a.toNat_lt
  have hb := b.toNat_lt
  have hx : a.toNat ^^^ b.toNat < 2 ^ 8 := Nat.xor_lt_two_pow (by omega) (by omega)
  have e : (BitVec.ofNat 8 a.toNat ^^^ BitVec.ofNat 8 b.toNat).toNat = a.toNat ^^^ b.toNat := by rw [BitVec.toNat_xor, BitVec.toNat_ofNat, BitVec.toNat_ofNat, Nat.mod_eq_of_lt (by omega), Nat.mod_eq_of_lt (by omega)]
  show IntKind.u8.wrap (((BitVec.ofInt 8 (a.toNat : Int)) ^^^ (BitVec.ofInt 8 (b.toNat : Int))).toNat : Int) = _
  rw [BitVec.ofInt_natCast, BitVec.ofInt_natCast, e, IntKind.wrap_u8, UInt8.toNat_xor]
  omega

/-! ### what is drawn -/
theorem and255_range (x : Int) : 0 ≤ Go.bits .and .i64 x 255 ∧ Go.bits .and .i64 x 255 ≤ 255 := by
  have e : ((BitVec.ofInt 64 x) &&& (BitVec.ofInt 64 255)).toNat = (x % 18446744073709551616).toNat % 256 := by
    rw [BitVec.toNat_and, BitVec.toNat_ofInt, show (BitVec.ofInt 64 255).toNat = 2 ^ 8 - 1 by decide, Nat.and_two_pow_sub_one_eq_mod]
    rfl
  have e2 : Go.bits .and .i64 x 255 = IntKind.i64.wrap (((BitVec.ofInt 64 x) &&& (BitVec.ofInt 64 255)).toNat : Int) := rfl
  rw [e2, e, IntKind.wrap_i64]
  omega
theorem byte_ex (l : List Int) (i h : Int) (hl : l.length ≤ 140737488351232) (hi : 0 ≤ i) : ∃ x i' h', spec_l01Byte.f l i h = some (x, i', h') ∧ 0 ≤ x ∧ x ≤ 255 ∧ 0 ≤ i' := by
  unfold spec_l01Byte.f
  by_cases c : i < (l.length : Int)
  · rw [if_pos c, if_pos hi]
    refine ⟨_, _, _, rfl, (and255_range _).1, (and255_range _).2, ?_⟩
    rw [w64 (by omega) (by omega)]
    omega
  · rw [if_neg c]
    exact ⟨_, _, _, rfl, (and255_range _).1, (and255_range _).2, hi⟩
theorem below_ex (l : List Int) (i h n : Int) (hl : l.length ≤ 140737488351232) (hi : 0 ≤ i) (hn : n ≤ 4294967296) : ∃ x i' h', spec_l01Below.f l i h n = some (x, i', h') ∧ 0 ≤ x ∧ (0 < n → x < n) ∧ (n ≤ 0 → x = 0) ∧ 0 ≤ i' := by
  unfold spec_l01Below.f
  by_cases c1 : n ≤ 0
  · rw [if_pos c1]
    exact ⟨_, _, _, rfl, by omega, by omega, fun _ => rfl, hi⟩
  · rw [if_neg c1]
    by_cases c2 : n ≤ 256
    · rw [if_pos c2]
      obtain ⟨x, i1, h1, e1, b0, b1, hi1⟩ := byte_ex l i h hl hi
      simp only [e1, Option.bind_some]
      rw [if_neg (by omega)]
      refine ⟨_, _, _, rfl, Int.tmod_nonneg _ b0, fun _ => ?_, by omega, hi1⟩
      exact Int.tmod_lt_of_pos _ (by omega)
    · rw [if_neg c2]
      obtain ⟨x, i1, h1, e1, x0, x1, hi1⟩ := byte_ex l i h hl hi
      obtain ⟨y, i2, h2, e2, y0, y1, hi2⟩ := byte_ex l i1 h1 hl hi1
      obtain ⟨z, i3, h3, e3, z0, z1, hi3⟩ := byte_ex l i2 h2 hl hi2
      obtain ⟨u, i4, h4, e4, u0, u1, hi4⟩ := byte_ex l i3 h3 hl hi3
      simp only [e1, e2, e3, e4, Option.bind_some]
      rw [if_neg (by omega)]
      refine ⟨_, _, _, rfl, Int.tmod_nonneg _ ?_, fun _ => Int.tmod_lt_of_pos _ (by omega), by omega, hi4⟩
      rw [w64 (x := x * 16777216) (by omega) (by omega), w64 (x := y * 65536) (by omega) (by omega), w64 (x := z * 256) (by omega) (by omega), w64 (x := x * 16777216 + y * 65536) (by omega) (by omega), w64 (x := x * 16777216 + y * 65536 + z * 256) (by omega) (by omega), w64 (by omega) (by omega)]
      omega
theorem new_ev (l : List Int) (hl : l.length ≤ 140737488351232) : ∃ h, Ev (fun k => spec_l01New.f k l) (l, 0, h) := by
  have key : ∀ d (i : Nat) (h : Int), l.length - i = d → ∃ h', Ev (fun k => spec_l01New.l0 k l h (i : Int)) (l, 0, h') := by
    intro d
    induction d with
    | zero =>
      intro i h hd
      exact ⟨h, Ev.step (f := fun _ => some (l, 0, h)) (fun k => by simp only [spec_l01New.l0]; rw [if_neg (by omega)]) (Ev.now _)⟩
    | succ d ih =>
      intro i h hd
      by_cases c : (i : Int) < 4000
      · obtain ⟨h', hh⟩ := ih (i + 1) _ (by omega)
        refine ⟨h', Ev.step (fun k => ?_) hh⟩
        simp only [spec_l01New.l0]
        rw [if_pos (by omega), if_pos c, if_pos (by omega), wsucc (by omega)]
      · exact ⟨h, Ev.step (f := fun _ => some (l, 0, h)) (fun k => by simp only [spec_l01New.l0]; rw [if_pos (by omega), if_neg c]) (Ev.now _)⟩
  obtain ⟨h', hh⟩ := key l.length 0 (wrap64 (36801 + (l.length : Int))) (by omega)
  exact ⟨h', hh⟩

theorem text_ev (l : List Int) (i h n : Int) (hl : l.length ≤ 140737488351232) (hi : 0 ≤ i) (hn : n ≤ 5000) : ∃ t i' h', Ev (fun k => spec_l01Text.f k l i h n) (t, i', h') ∧ t.size = n.toNat ∧ 0 ≤ i' := by
  have key : ∀ d (j : Nat) (acc : List Int) (i h : Int), j ≤ n.toNat → n.toNat - j = d → acc.length = j → 0 ≤ i → ∃ t i' h', Ev (fun k => spec_l01Text.l0 k n acc (j : Int) l i h) (t, i', h') ∧ t.size = n.toNat ∧ 0 ≤ i' := by
    intro d
    induction d with
    | zero =>
      intro j acc i h hj hd ha hi
      refine ⟨strOfNums acc, i, h, Ev.step (f := fun _ => some (strOfNums acc, i, h)) (fun k => by simp only [spec_l01Text.l0]; rw [if_neg (by omega)]) (Ev.now _), ?_, hi⟩
      rw [strOfNums_size]
      omega
    | succ d ih =>
      intro j acc i h hj hd ha hi
      obtain ⟨y, i2, h2, e2, _, _, hi2⟩ := byte_ex l i h hl hi
      obtain ⟨t, i3, h3, hp, hp1, hp2⟩ := ih (j + 1) (acc ++ [y % 256]) i2 h2 (by omega) (by omega) (by simp; omega) hi2
      refine ⟨t, i3, h3, Ev.step (fun k => ?_) hp, hp1, hp2⟩
      simp only [spec_l01Text.l0]
      rw [if_pos (by omega), e2]
      simp only [Option.bind_some]
      rw [if_pos (by omega), wsucc (by omega)]
  obtain ⟨t, i', h', ht, hs, hi'⟩ := key n.toNat 0 [] i h (by omega) (by omega) rfl hi
  refine ⟨t, i', h', ?_, hs, hi'⟩
  unfold spec_l01Text.f
  simp only [if_neg (show ¬ n > 5000 by omega)]
  exact Ev.step (fun k => by simp only [spec_l01Text.j0]; rfl) ht

theorem places_ev (l : List Int) (hl : l.length ≤ 140737488351232) : ∃ p : List Int, Ev (fun k => spec_DrawPlaces.f k l) p ∧ p.length = 12 ∧ ∀ x ∈ p, 0 ≤ x ∧ x < 10000 := by
  obtain ⟨h0, hn⟩ := new_ev l hl
  obtain ⟨x, i1, h1, e1, x0, x1, hi1⟩ := byte_ex l 0 h0 hl (by omega)
  have key : ∀ d (j : Nat) (acc : List Int) (i h : Int), j ≤ 12 → 12 - j = d → acc.length = j → (∀ x ∈ acc, 0 ≤ x ∧ x < 10000) → 0 ≤ i → ∃ p : List Int, Ev (fun k => spec_DrawPlaces.l0 k acc (j : Int) l i h) p ∧ p.length = 12 ∧ ∀ x ∈ p, 0 ≤ x ∧ x < 10000 := by
    intro d
    induction d with
    | zero =>
      intro j acc i h hj hd ha hb hi
      exact ⟨acc, Ev.step (f := fun _ => some acc) (fun k => by simp only [spec_DrawPlaces.l0]; rw [if_neg (by omega)]) (Ev.now _), by omega, hb⟩
    | succ d ih =>
      intro j acc i h hj hd ha hb hi
      obtain ⟨y, i2, h2, e2, y0, y1, _, hi2⟩ := below_ex l i h 10000 hl hi (by omega)
      obtain ⟨p, hp, hp1, hp2⟩ := ih (j + 1) (acc ++ [y]) i2 h2 (by omega) (by omega) (by simp; omega) (by
        intro z hz
        rcases List.mem_append.1 hz with hz | hz
        · exact hb z hz
        · rw [List.mem_singleton.1 hz]; exact ⟨y0, y1 (by omega)⟩) hi2
      refine ⟨p, Ev.step (fun k => ?_) hp, hp1, hp2⟩
      simp only [spec_DrawPlaces.l0]
      rw [if_pos (by omega), e2]
      simp only [Option.bind_some]
      rw [if_pos (by omega), wsucc (by omega)]
  obtain ⟨p, hp, hp1, hp2⟩ := key 12 0 [] i1 h1 (by omega) (by omega) rfl (by simp) hi1
  refine ⟨p, ?_, hp1, hp2⟩
  unfold spec_DrawPlaces.f
  refine Ev.bind hn ?_
  simp only [e1, Option.bind_some]
  exact hp
theorem rd_mem {p : List Int} {n : Nat} (h : n < p.length) : rd p (n : Int) ∈ p := by
  unfold rd
  rw [Int.toNat_natCast, List.getD_eq_getElem?_getD, List.getElem?_eq_getElem h]
  exact List.getElem_mem h

/-- A sealed text whose byte i is another is not unsealed. -/
theorem turned_not (s : ByteArray) (i : Nat) (b : UInt8) (hi : i < (s ++ four (sumT s)).data.toList.length) (hb : (s ++ four (sumT s)).data.toList[i] ≠ b) : (unsealedV ⟨((s ++ four (sumT s)).data.toList.set i b).toArray⟩).2 = false := by
  have hL : (s ++ four (sumT s)).data.toList = s.data.toList ++ (four (sumT s)).data.toList := str_app _ _
  have hfl : (four (sumT s)).data.toList.length = 4 := four_size (sumT s)
  have hsl : s.data.toList.length = s.size := rfl
  generalize hT : (⟨((s ++ four (sumT s)).data.toList.set i b).toArray⟩ : ByteArray) = t
  have hTl : t.data.toList = (s.data.toList ++ (four (sumT s)).data.toList).set i b := by rw [← hT, hL]
  have hts : t.size = s.size + 4 := by
    have := size_of_list t hTl
    rw [List.length_set, List.length_append, hfl, hsl] at this
    exact this
  have hi' : i < s.size + 4 := by rw [hL, List.length_append, hfl, hsl] at hi; exact hi
  unfold unsealedV
  rw [if_neg]
  rintro ⟨_, _, h⟩
  have hl := congrArg (fun z => z.data.toList) h
  simp only [str_cut, hts, hTl] at hl
  have hcut : ((s.data.toList ++ (four (sumT s)).data.toList).set i b).drop (s.size + 4 - 4) = (four (sumT (t.extract 0 (s.size + 4 - 4)))).data.toList := by
    rw [← hl, List.take_of_length_le]
    rw [List.length_drop, List.length_set, List.length_append, hfl, hsl]
    omega
  have h4 : s.size + 4 - 4 = s.data.toList.length := by omega
  have hsum : sumT (t.extract 0 (s.size + 4 - 4)) = sumN 4294967295 (((s.data.toList ++ (four (sumT s)).data.toList).set i b).take s.data.toList.length) := by
    show sumN 4294967295 (t.extract 0 (s.size + 4 - 4)).data.toList = _
    rw [str_cut, hTl, List.drop_zero, Nat.sub_zero, h4]
  rw [h4] at hcut hsum
  by_cases c : i < s.data.toList.length
  · rw [List.set_append_left _ _ c, List.drop_left' (by rw [List.length_set])] at hcut
    rw [List.set_append_left _ _ c, List.take_left' (by rw [List.length_set])] at hsum
    have h5 : sumT s = sumN 4294967295 (s.data.toList.set i b) := by
      rw [← hsum]
      exact four_inj (sumT_lt _) (sumT_lt _) (str_ext hcut)
    have e1 : s.data.toList = s.data.toList.take i ++ s.data.toList[i] :: s.data.toList.drop (i + 1) := by rw [List.getElem_cons_drop c, List.take_append_drop]
    have e2 : s.data.toList.set i b = s.data.toList.take i ++ b :: s.data.toList.drop (i + 1) := List.set_eq_take_append_cons_drop ▸ (by rw [if_pos c])
    have h6 : sumN 4294967295 (s.data.toList.take i ++ s.data.toList[i] :: s.data.toList.drop (i + 1)) = sumN 4294967295 (s.data.toList.take i ++ b :: s.data.toList.drop (i + 1)) := by
      rw [← e1, ← e2]
      exact h5
    refine hb ?_
    rw [← sumN_byte _ _ (by omega) h6]
    simp only [hL]
    rw [List.getElem_append_left c]
  · have c' : s.data.toList.length ≤ i := by omega
    rw [List.set_append_right _ _ c', List.drop_left' rfl] at hcut
    rw [List.set_append_right _ _ c', List.take_left' rfl] at hsum
    rw [hsum] at hcut
    have h7 : (four (sumT s)).data.toList.set (i - s.data.toList.length) b = (four (sumT s)).data.toList := by rw [hcut]; rfl
    have hj : i - s.data.toList.length < (four (sumT s)).data.toList.length := by omega
    refine hb ?_
    have h8 : ((four (sumT s)).data.toList.set (i - s.data.toList.length) b)[i - s.data.toList.length]'(by rw [List.length_set]; exact hj) = b := List.getElem_set_self _
    simp only [h7] at h8
    simp only [hL]
    rw [List.getElem_append_right c', h8]
theorem turned_last {s : ByteArray} {p : List Int} (hs : s.size ≤ 100) (hp : p.length = 12) (h0 : 0 ≤ rd p 0) (h1 : 0 ≤ rd p 1) : Ev (fun k => laws_FnTurned.j0 k s p (s ++ four (sumT s)) false) true := by
  have hT : (s ++ four (sumT s)).size = s.size + 4 := by rw [ByteArray.size_append, four_size]
  obtain ⟨i, hi, hi2⟩ := tmod_nat h0 (s.size + 3)
  obtain ⟨c, hc, hc2⟩ := tmod_nat h1 254
  have hc : Int.tmod (rd p 1) 255 = (c : Int) := hc
  have hl : ((bytesOf (s ++ four (sumT s))).length : Int) = ((s.size + 3 + 1 : Nat) : Int) := by rw [bytesOf_length, hT]
  have hilt : i < (s ++ four (sumT s)).data.toList.length := by rw [str_len, hT]; omega
  generalize hb : (s ++ four (sumT s)).data.toList[i]'hilt = b
  have hrd : rd (bytesOf (s ++ four (sumT s))) (i : Int) = (b.toNat : Int) := by
    unfold rd
    rw [Int.toNat_natCast, bytesOf_ints, ints, List.getD_eq_getElem?_getD, List.getElem?_map, List.getElem?_eq_getElem hilt, hb]
    rfl
  have hx : (wrap64 (1 + (c : Int))) % 256 = ((UInt8.ofNat (c + 1)).toNat : Int) := by
    rw [w64 (by omega) (by omega), UInt8.toNat_ofNat']
    omega
  have hne : b ≠ b ^^^ UInt8.ofNat (c + 1) := by
    intro e
    have e2 := congrArg (fun z => b ^^^ z) e
    simp only [UInt8.xor_self, ← UInt8.xor_assoc, UInt8.zero_xor] at e2
    have e3 := congrArg UInt8.toNat e2
    rw [UInt8.toNat_ofNat'] at e3
    simp at e3
    omega
  have hset : strOfNums ((bytesOf (s ++ four (sumT s))).set i ((b ^^^ UInt8.ofNat (c + 1)).toNat : Int)) = ⟨((s ++ four (sumT s)).data.toList.set i (b ^^^ UInt8.ofNat (c + 1))).toArray⟩ := by
    rw [← str_ints]
    congr 1
    rw [bytesOf_ints, ints, ints, List.map_set]
  have hnot := turned_not s i (b ^^^ UInt8.ofNat (c + 1)) hilt (by rw [hb]; exact hne)
  have hts : (⟨((s ++ four (sumT s)).data.toList.set i (b ^^^ UInt8.ofNat (c + 1))).toArray⟩ : ByteArray).size ≤ 140737488351232 := by
    rw [size_of_list _ rfl, List.length_set, str_len, hT]
    omega
  refine Ev.step (f := fun k => (impl_Unsealed.f k (⟨((s ++ four (sumT s)).data.toList.set i (b ^^^ UInt8.ofNat (c + 1))).toArray⟩ : ByteArray)).bind fun bt178 => (if bt178.2 = true then (some false) else ((impl_SumOf.f k s).bind fun t180 => ((impl_SumMore.f k t180 (⟨#[120]⟩ : ByteArray)).bind fun t181 => (if s.size + 1 ≤ 9223372036854775807 then ((impl_SumOf.f k (s ++ (⟨#[120]⟩ : ByteArray))).bind fun t182 => (some (t181 == t182))) else (none)))))) (fun k => ?_) ?_
  · simp only [laws_FnTurned.j0]
    rw [if_neg (by simp), if_pos (by omega)]
    simp only [Option.bind_some]
    rw [hl, hi, hc, hx, hrd, bits_xor8, if_pos (by omega), if_neg (by omega), if_pos (by omega), if_pos (by omega), if_pos (by omega), Int.toNat_natCast, hset]
  · refine Ev.bind (impl_Unsealed_ev _ hts) (Ev.neg (by rw [hnot]; simp) (Ev.bind (impl_SumOf_ev s (by omega)) (Ev.bind (impl_SumMore_ev _ (by decide) (sumT_lt s)) (Ev.pos (by omega) (Ev.bind (impl_SumOf_ev _ (by rw [ByteArray.size_append, show (⟨#[120]⟩ : ByteArray).size = 1 from rfl]; omega)) ?_)))))
    have e : sumN (sumT s) (⟨#[120]⟩ : ByteArray).data.toList = sumT (s ++ (⟨#[120]⟩ : ByteArray)) := by
      unfold sumT
      rw [str_app, sumN_append]
    rw [e]
    simp only [beq_self_eq_true]
    exact Ev.now _
theorem drawSumOf_ev (l : List Int) (hl : l.length ≤ 140737488351232) : ∃ s : ByteArray, Ev (fun k => spec_DrawSumOf.f k l) s ∧ s.size ≤ 40 := by
  obtain ⟨h, hn⟩ := new_ev l hl
  obtain ⟨x1, i1, h1, e1, b1, b2, _, b3⟩ := below_ex l 0 h 40 hl (by omega) (by omega)
  obtain ⟨t1, i2, h2, e2, z1, b4⟩ := text_ev l i1 h1 x1 hl b3 (by have := b2 (by omega); omega)
  refine ⟨t1, ?_, by have := b2 (by omega); omega⟩
  unfold spec_DrawSumOf.f
  exact Ev.bind hn (Ev.some_bind e1 (Ev.bind e2 (Ev.now _)))
theorem unsealed_back (s : ByteArray) (hs : s.size ≤ 20000) : unsealedV (s ++ four (sumT s)) = (s, true) := by
  have hT : (s ++ four (sumT s)).size = s.size + 4 := by rw [ByteArray.size_append, four_size]
  have hfl : (four (sumT s)).data.toList.length = 4 := four_size (sumT s)
  have e1 : (s ++ four (sumT s)).extract 0 (s.size + 4 - 4) = s := by
    refine str_ext ?_
    rw [str_cut, str_app, List.drop_zero, Nat.sub_zero, Nat.add_sub_cancel]
    exact List.take_left' rfl
  have e2 : (s ++ four (sumT s)).extract (s.size + 4 - 4) (s.size + 4) = four (sumT s) := by
    refine str_ext ?_
    rw [str_cut, str_app, Nat.add_sub_cancel, List.drop_left' (show s.data.toList.length = s.size from rfl), List.take_of_length_le (by omega)]
  unfold unsealedV
  rw [hT, e1, e2, if_pos ⟨by omega, by omega, rfl⟩]
theorem FnTurned : laws_FnTurned.Pure := by
  intro l _ hl _
  have hl' : l.length ≤ 140737488351232 := by omega
  refine Ev.rounds ?_
  unfold laws_FnTurned.f
  refine Ev.some_bind (x := decide ((l.length : Int) > 1048576)) rfl ?_
  by_cases hb : (l.length : Int) > 1048576
  · exact Ev.pos (by simpa using hb) (Ev.now _)
  · refine Ev.neg (by simpa using hb) ?_
    obtain ⟨s, hd, hs⟩ := drawSumOf_ev l hl'
    obtain ⟨p, hp, hpl, hpr⟩ := places_ev l hl'
    have hT : (s ++ four (sumT s)).size = s.size + 4 := by rw [ByteArray.size_append, four_size]
    have h1 := impl_Sealed_ev s
    rw [show sealedV s = (s ++ four (sumT s), true) by unfold sealedV; rw [if_neg (by omega)]] at h1
    have h2 := impl_Unsealed_ev (s ++ four (sumT s)) (by omega)
    rw [unsealed_back s (by omega)] at h2
    refine Ev.bind hd (Ev.bind hp (Ev.bind h1 (Ev.bind h2 (Ev.pos rfl (Ev.pos rfl (Ev.pos rfl ?_))))))
    have e : (((s ++ four (sumT s)).size : Int) != wrap64 ((s.size : Int) + 4)) = false := by
      rw [hT, w64 (by omega) (by omega)]
      simp
    show Ev (fun k => laws_FnTurned.j0 k s p (s ++ four (sumT s)) (((s ++ four (sumT s)).size : Int) != wrap64 ((s.size : Int) + 4))) true
    rw [e]
    exact turned_last (by omega) hpl (hpr _ (rd_mem (p := p) (n := 0) (by omega))).1 (hpr _ (rd_mem (p := p) (n := 1) (by omega))).1


end Go.Proofs.Ytdllmlnigihpcaa.Pure
