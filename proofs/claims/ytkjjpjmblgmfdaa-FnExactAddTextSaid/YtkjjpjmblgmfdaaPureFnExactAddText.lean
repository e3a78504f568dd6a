/- The program's AddText and the reference's AddText return the same text, for every two texts. -/
import Derived.Test.YtkjjpjmblgmfdaaXFnExactAddTextx1
set_option linter.unusedVariables false
set_option linter.unusedSimpArgs false
namespace Go.Proofs.Ytkjjpjmblgmfdaa.Pure
open Go.RowKit Go.Proofs.Ytkjjpjmblgmfdaa.XFnExactAddText Go.Proofs.YtkjjpjmblgmfdaaW.PrintWords Go.Proofs.YtkjjpjmblgmfdaaW.PrintLast

/-! ### small words -/
theorem w64 {x : Int} (h0 : -9223372036854775808 ≤ x) (h1 : x ≤ 9223372036854775807) : wrap64 x = x := by
  unfold wrap64
  omega
theorem wf64 {x : Int} (h : (Lit.int .i64 x).wf = true) : -9223372036854775808 ≤ x ∧ x ≤ 9223372036854775807 := by
  simp [Lit.wf, IntKind.min, IntKind.max, IntKind.signed, IntKind.bits] at h
  omega
theorem wfu32 {x : Int} (h : (Lit.int .u32 x).wf = true) : 0 ≤ x ∧ x ≤ 4294967295 := by
  simp [Lit.wf, IntKind.min, IntKind.max, IntKind.signed, IntKind.bits] at h
  omega
theorem wfu8 {x : Int} (h : (Lit.int .u8 x).wf = true) : 0 ≤ x ∧ x ≤ 255 := by
  simp [Lit.wf, IntKind.min, IntKind.max, IntKind.signed, IntKind.bits] at h
  omega
theorem wsucc {n : Nat} (h : n ≤ 4611686018427387904) : wrap64 ((n : Int) + 1) = ((n + 1 : Nat) : Int) := by
  rw [w64 (by omega) (by omega)]
  rfl
theorem wadd {a b : Nat} (h : a + b ≤ 4611686018427387904) : wrap64 ((a : Int) + (b : Int)) = ((a + b : Nat) : Int) := by
  rw [w64 (by omega) (by omega)]
  rfl
theorem wnat {n : Nat} (h : n ≤ 4611686018427387904) : wrap64 (n : Int) = (n : Int) := w64 (by omega) (by omega)
theorem Ev.some_bind {α β : Type} {a : Option α} {x : α} (h : a = some x) {f : Nat → α → Option β} {r : β} (k : Ev (fun n => f n x) r) : Ev (fun n => a.bind (f n)) r := by
  subst h
  exact k
theorem Ev.pos {α : Type} {p : Prop} [Decidable p] (h : p) {f g : Nat → Option α} {r : α} (k : Ev f r) : Ev (fun n => if p then f n else g n) r :=
  Ev.congr (fun _ => if_pos h) k
theorem Ev.neg {α : Type} {p : Prop} [Decidable p] (h : ¬ p) {f g : Nat → Option α} {r : α} (k : Ev g r) : Ev (fun n => if p then f n else g n) r :=
  Ev.congr (fun _ => if_neg h) k
theorem tmod_nat {x : Int} (h0 : 0 ≤ x) (N : Nat) : ∃ c : Nat, Int.tmod x ((N + 1 : Nat) : Int) = (c : Int) ∧ c ≤ N := by
  obtain ⟨c, hc⟩ := Int.eq_ofNat_of_zero_le (Int.tmod_nonneg ((N + 1 : Nat) : Int) h0)
  have hlt := Int.tmod_lt_of_pos x (show (0 : Int) < ((N + 1 : Nat) : Int) by omega)
  rw [hc] at hlt
  exact ⟨c, hc, by omega⟩

theorem strOfNums_size (xs : List Int) : (strOfNums xs).size = xs.length := by simp [strOfNums, ByteArray.size]
theorem str_ext {a b : ByteArray} (h : a.data.toList = b.data.toList) : a = b := by
  apply ByteArray.ext
  exact Array.toList_inj.1 h
theorem str_app (a b : ByteArray) : (a ++ b).data.toList = a.data.toList ++ b.data.toList := by simp [ByteArray.data_append]
theorem str_cut (s : ByteArray) (a b : Nat) : (s.extract a b).data.toList = (s.data.toList.drop a).take (b - a) := by
  obtain ⟨⟨l⟩⟩ := s
  simp [ByteArray.data_extract, List.extract_eq_take_drop]
theorem str_len (s : ByteArray) : s.data.toList.length = s.size := rfl
theorem str_toList {a b : ByteArray} : a.toList = b.toList ↔ a = b := by
  rw [ByteArray.toList_eq, ByteArray.toList_eq]
  exact ⟨str_ext, fun h => by rw [h]⟩
theorem str_split (s : ByteArray) (n : Nat) (h : n ≤ s.size) : s.extract 0 n ++ s.extract n s.size = s := by
  apply str_ext
  rw [str_app, str_cut, str_cut, List.drop_zero, Nat.sub_zero, List.take_of_length_le (l := s.data.toList.drop n) (by simp [str_len]), List.take_append_drop]
theorem str_app_inj {a b c : ByteArray} (h : a ++ b = a ++ c) : b = c := by
  have := congrArg (fun s : ByteArray => s.data.toList) h
  simp only [str_app] at this
  exact str_ext (List.append_cancel_left this)
theorem cut_size (s : ByteArray) {n : Nat} (h : n ≤ s.size) : (s.extract 0 n).size = n := by
  rw [ByteArray.size_extract]
  omega

/-! ### lists of bytes as numbers -/
def ints (l : List UInt8) : List Int := l.map fun b => (b.toNat : Int)
theorem ints_length (l : List UInt8) : (ints l).length = l.length := by simp [ints]
theorem ints_app (l m : List UInt8) : ints (l ++ m) = ints l ++ ints m := by simp [ints]
theorem bytesOf_ints (s : ByteArray) : bytesOf s = ints s.data.toList := rfl
theorem str_ints (l : List UInt8) : strOfNums (ints l) = ⟨l.toArray⟩ := by
  unfold strOfNums ints
  congr 1
  rw [List.map_map]
  congr 1
  conv => rhs; rw [← List.map_id l]
  refine List.map_congr_left (fun b _ => ?_)
  simp
theorem set_mid {α : Type} (A : List α) (x v : α) (B : List α) : (A ++ x :: B).set A.length v = A ++ v :: B := by simp
theorem rd_mid (A : List Int) (x : Int) (B : List Int) : rd (A ++ x :: B) (A.length : Int) = x := by simp [rd]
theorem bt_mid (s : ByteArray) {A : List UInt8} {x : UInt8} {B : List UInt8} (h : s.data.toList = A ++ x :: B) : bt s (A.length : Int) = (x.toNat : Int) := by
  have hl : A.length < s.size := by
    have h1 : s.data.toList.length = s.size := rfl
    rw [h] at h1
    simp at h1
    omega
  unfold bt
  rw [dif_pos (by simpa using hl)]
  have e : s.data.toList[A.length]'(by simpa using hl) = x := by simp [h]
  show (((s.data[A.length]'hl).toNat : Nat) : Int) = _
  rw [← e]
  simp
theorem size_of_list (s : ByteArray) {l : List UInt8} (h : s.data.toList = l) : s.size = l.length := by
  have h1 : s.data.toList.length = s.size := rfl
  rw [h] at h1
  omega

/-! ### sums of texts -/
def addL : List UInt8 → List UInt8 → List UInt8
  | [], ys => ys
  | xs, [] => xs
  | x :: xs, y :: ys => (x ^^^ y) :: addL xs ys
def addT (a b : ByteArray) : ByteArray := ⟨(addL a.data.toList b.data.toList).toArray⟩
theorem addL_nil (xs : List UInt8) : addL xs [] = xs := by cases xs <;> rfl
theorem nil_addL (xs : List UInt8) : addL [] xs = xs := rfl
theorem addL_comm : ∀ xs ys : List UInt8, addL xs ys = addL ys xs
  | [], ys => by rw [addL_nil]; rfl
  | x :: xs, [] => rfl
  | x :: xs, y :: ys => by simp only [addL]; rw [addL_comm xs ys, UInt8.xor_comm]
theorem addL_length : ∀ xs ys : List UInt8, (addL xs ys).length = max xs.length ys.length
  | [], ys => by simp [addL]
  | x :: xs, [] => by simp [addL]
  | x :: xs, y :: ys => by simp only [addL, List.length_cons, addL_length xs ys]; omega
theorem addL_zeros : ∀ (xs ys : List UInt8) (n : Nat), xs.length + n = max xs.length ys.length → addL (xs ++ List.replicate n 0) ys = addL xs ys
  | [], [], 0, _ => rfl
  | [], [], n + 1, h => by simp at h
  | [], y :: ys, 0, h => by simp at h
  | [], y :: ys, n + 1, h => by
    have ih := addL_zeros [] ys n (by simp at h ⊢; exact h)
    simp only [List.nil_append, List.replicate_succ, addL] at ih ⊢
    rw [ih, UInt8.zero_xor]
  | x :: xs, [], n, h => by
    have : n = 0 := by simp at h; exact h
    subst this
    simp
  | x :: xs, y :: ys, n, h => by
    simp only [List.cons_append, addL]
    rw [addL_zeros xs ys n (by simp only [List.length_cons] at h; omega)]
theorem bits_xor8 (a b : UInt8) : Go.bits .xor .u8 (a.toNat : Int) (b.toNat : Int) = ((a ^^^ b).toNat : Int) := by
  have ha := a.toNat_lt
  have hb := b.toNat_lt
  have hx : a.toNat ^^^ b.toNat < 2 ^ 8 := Nat.xor_lt_two_pow (by omega) (by omega)
  have e : (BitVec.ofNat 8 a.toNat ^^^ BitVec.ofNat 8 b.toNat).toNat = a.toNat ^^^ b.toNat := by rw [BitVec.toNat_xor, BitVec.toNat_ofNat, BitVec.toNat_ofNat, Nat.mod_eq_of_lt (by omega), Nat.mod_eq_of_lt (by omega)]
  show IntKind.u8.wrap (((BitVec.ofInt 8 (a.toNat : Int)) ^^^ (BitVec.ofInt 8 (b.toNat : Int))).toNat : Int) = _
  rw [BitVec.ofInt_natCast, BitVec.ofInt_natCast, e, IntKind.wrap_u8, UInt8.toNat_xor]
  omega

theorem spec_AddText_l0 (s : ByteArray) (hs : s.size ≤ 1073741824) : ∀ (rb rest pre done : List UInt8), s.data.toList = pre ++ rb → pre.length = done.length → rb.length ≤ rest.length →
    Ev (fun k => spec_AddText.l0 k s (ints (done ++ rest)) (done.length : Int)) (strOfNums (ints (done ++ addL rest rb))) := by
  intro rb
  induction rb with
  | nil =>
    intro rest pre done he hp hr
    have hsz := size_of_list s he
    simp only [List.append_nil] at hsz
    refine Ev.step (f := fun _ => some (strOfNums (ints (done ++ addL rest [])))) (fun k => ?_) (Ev.now _)
    simp only [spec_AddText.l0]
    rw [if_neg (by omega), addL_nil]
  | cons b rb ih =>
    intro rest pre done he hp hr
    have hsz := size_of_list s he
    simp only [List.length_append, List.length_cons] at hsz
    cases rest with
    | nil => simp at hr
    | cons r rest =>
      simp only [List.length_cons] at hr
      have h := ih rest (pre ++ [b]) (done ++ [r ^^^ b]) (by rw [he]; simp) (by simp; omega) (by omega)
      rw [List.length_append] at h
      refine Ev.step (fun k => ?_) (by rw [show done ++ addL (r :: rest) (b :: rb) = done ++ [r ^^^ b] ++ addL rest rb by simp [addL]]; exact h)
      simp only [spec_AddText.l0]
      have e := bt_mid s he
      rw [hp] at e
      have e2 : rd (ints (done ++ r :: rest)) (done.length : Int) = (r.toNat : Int) := by
        have := rd_mid (ints done) (r.toNat : Int) (ints rest)
        rw [ints_length] at this
        rw [ints_app]
        exact this
      rw [if_pos (by omega), if_pos (by omega), if_pos (by rw [ints_length, List.length_append, List.length_cons]; omega), wsucc (by omega), e, e2, bits_xor8]
      have h1 := set_mid (ints done) (r.toNat : Int) ((r ^^^ b).toNat : Int) (ints rest)
      rw [ints_length] at h1
      have e3 : (ints (done ++ r :: rest)).set done.length ((r ^^^ b).toNat : Int) = ints (done ++ [r ^^^ b] ++ rest) := by
        rw [ints_app]
        refine Eq.trans h1 ?_
        simp [ints]
      rw [show ((done.length : Int)).toNat = done.length from Int.toNat_natCast _, e3]
      rfl
theorem spec_AddText_j0 (a b : ByteArray) (ha : a.size ≤ 1073741824) (hb : b.size ≤ a.size) : Ev (fun k => spec_AddText.j0 k a b) (addT a b) := by
  have h := spec_AddText_l0 b (by omega) b.data.toList a.data.toList [] [] rfl rfl hb
  rw [str_ints] at h
  refine Ev.step (fun k => ?_) h
  simp only [spec_AddText.j0]
  rw [if_pos (by omega)]
  rfl
theorem spec_AddText_ev (a b : ByteArray) (ha : a.size ≤ 1073741824) (hb : b.size ≤ 1073741824) : Ev (fun k => spec_AddText.f k a b) (addT a b) := by
  unfold spec_AddText.f
  by_cases h : (a.size : Int) < (b.size : Int)
  · refine Ev.pos h ?_
    rw [show addT a b = addT b a by unfold addT; rw [addL_comm]]
    exact spec_AddText_j0 b a hb (by omega)
  · exact Ev.neg h (spec_AddText_j0 a b ha (by omega))

theorem impl_AddText_l0 (s : ByteArray) (hs : s.size ≤ 1073741824) : ∀ (rb rest pre done : List UInt8), s.data.toList = pre ++ rb → pre.length = done.length → rb.length ≤ rest.length →
    Ev (fun k => impl_AddText.l0 k s (ints (done ++ rest)) (done.length : Int)) (strOfNums (ints (done ++ addL rest rb))) := by
  intro rb
  induction rb with
  | nil =>
    intro rest pre done he hp hr
    have hsz := size_of_list s he
    simp only [List.append_nil] at hsz
    refine Ev.step (f := fun _ => some (strOfNums (ints (done ++ addL rest [])))) (fun k => ?_) (Ev.now _)
    simp only [impl_AddText.l0]
    rw [if_neg (by omega), addL_nil]
  | cons b rb ih =>
    intro rest pre done he hp hr
    have hsz := size_of_list s he
    simp only [List.length_append, List.length_cons] at hsz
    cases rest with
    | nil => simp at hr
    | cons r rest =>
      simp only [List.length_cons] at hr
      have h := ih rest (pre ++ [b]) (done ++ [r ^^^ b]) (by rw [he]; simp) (by simp; omega) (by omega)
      rw [List.length_append] at h
      refine Ev.step (fun k => ?_) (by rw [show done ++ addL (r :: rest) (b :: rb) = done ++ [r ^^^ b] ++ addL rest rb by simp [addL]]; exact h)
      simp only [impl_AddText.l0]
      have e := bt_mid s he
      rw [hp] at e
      have e2 : rd (ints (done ++ r :: rest)) (done.length : Int) = (r.toNat : Int) := by
        have := rd_mid (ints done) (r.toNat : Int) (ints rest)
        rw [ints_length] at this
        rw [ints_app]
        exact this
      rw [if_pos (by omega), if_pos (by omega), if_pos (by rw [ints_length, List.length_append, List.length_cons]; omega), wsucc (by omega), e, e2, bits_xor8]
      have h1 := set_mid (ints done) (r.toNat : Int) ((r ^^^ b).toNat : Int) (ints rest)
      rw [ints_length] at h1
      have e3 : (ints (done ++ r :: rest)).set done.length ((r ^^^ b).toNat : Int) = ints (done ++ [r ^^^ b] ++ rest) := by
        rw [ints_app]
        refine Eq.trans h1 ?_
        simp [ints]
      rw [show ((done.length : Int)).toNat = done.length from Int.toNat_natCast _, e3]
      rfl
theorem impl_AddText_ev (a b : ByteArray) (ha : a.size ≤ 1073741824) (hb : b.size ≤ 1073741824) : Ev (fun k => impl_AddText.f k a b) (addT a b) := by
  have hm : mx (a.size : Int) (b.size : Int) = ((max a.size b.size : Nat) : Int) := by
    unfold mx
    split <;> omega
  unfold impl_AddText.f
  rw [hm]
  refine Ev.pos (by omega) (Ev.pos (by omega) (Ev.some_bind rfl (Ev.pos (by rw [List.length_replicate]; omega) ?_)))
  have hc : copyS (List.replicate (max a.size b.size) 0) a = ints (a.data.toList ++ List.replicate (max a.size b.size - a.size) 0) := by
    unfold copyS
    rw [bytesOf_ints, ints_app, List.drop_replicate]
    simp [ints]
  have h := impl_AddText_l0 b hb b.data.toList (a.data.toList ++ List.replicate (max a.size b.size - a.size) 0) [] [] rfl rfl (by rw [List.length_append, List.length_replicate, str_len, str_len]; omega)
  rw [addL_zeros _ _ _ (by rw [str_len, str_len]; omega), str_ints] at h
  rw [Int.toNat_natCast, hc]
  exact h

theorem FnExactAddText : laws_FnExactAddText.Pure := by
  intro a b ha hb
  refine Ev.rounds ?_
  unfold laws_FnExactAddText.f
  by_cases h : (a.size : Int) > 1048576
  · exact Ev.pos h (Ev.now _)
  · refine Ev.neg h ?_
    by_cases h2 : (b.size : Int) > 1048576
    · exact Ev.pos h2 (Ev.now _)
    · refine Ev.neg h2 (Ev.bind (spec_AddText_ev a b (by omega) (by omega)) (Ev.bind (impl_AddText_ev a b (by omega) (by omega)) ?_))
      simp only [if_true]
      exact Ev.now _


end Go.Proofs.Ytkjjpjmblgmfdaa.Pure
