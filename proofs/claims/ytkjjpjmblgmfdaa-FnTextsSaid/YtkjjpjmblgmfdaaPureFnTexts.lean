/- Sums of drawn texts go back when they are taken twice; a text so many times goes through sums. -/
import Derived.Test.YtkjjpjmblgmfdaaXFnTextsx3
set_option linter.unusedVariables false
set_option linter.unusedSimpArgs false
namespace Go.Proofs.Ytkjjpjmblgmfdaa.Pure
open Go.RowKit Go.Proofs.Ytkjjpjmblgmfdaa.XFnTexts Go.Proofs.YtkjjpjmblgmfdaaW.PrintWords Go.Proofs.YtkjjpjmblgmfdaaW.PrintLast

/-! ### small words -/
theorem w64 {x : Int} (h0 : -9223372036854775808 ≤ x) (h1 : x ≤ 9223372036854775807) : wrap64 x = x := by
  unfold wrap64
  omega
theorem wf64 {x : Int} (h : (Lit.int .i64 x).wf = true) : -9223372036854775808 ≤ x ∧ x ≤ 9223372036854775807 := by
  simp [Lit.wf, IntKind.min, IntKind.max, IntKind.signed, IntKind.bits] at h
  omega
theorem wfu32 {x : Int} (h : (Lit.int .u32 x).wf = true) : 0 ≤ x ∧ x ≤ 4294967295 := by
  simp [Lit.wf, IntKind.min, IntKind.max, IntKind.signed, IntKind.bits] at h
  omega
theorem wfu8 {x : Int} (h : (Lit.int .u8 x).wf = true) : 0 ≤ x ∧ x ≤ 255 := by
  simp [Lit.wf, IntKind.min, IntKind.max, IntKind.signed, IntKind.bits] at h
  omega
theorem wsucc {n : Nat} (h : n ≤ 4611686018427387904) : wrap64 ((n : Int) + 1) = ((n + 1 : Nat) : Int) := by
  rw [w64 (by omega) (by omega)]
  rfl
theorem wadd {a b : Nat} (h : a + b ≤ 4611686018427387904) : wrap64 ((a : Int) + (b : Int)) = ((a + b : Nat) : Int) := by
  rw [w64 (by omega) (by omega)]
  rfl
theorem wnat {n : Nat} (h : n ≤ 4611686018427387904) : wrap64 (n : Int) = (n : Int) := w64 (by omega) (by omega)
theorem Ev.some_bind {α β : Type} {a : Option α} {x : α} (h : a = some x) {f : Nat → α → Option β} {r : β} (k : Ev (fun n => f n x) r) : Ev (fun n => a.bind (f n)) r := by
  subst h
  exact k
theorem Ev.pos {α : Type} {p : Prop} [Decidable p] (h : p) {f g : Nat → Option α} {r : α} (k : Ev f r) : Ev (fun n => if p then f n else g n) r :=
  Ev.congr (fun _ => if_pos h) k
theorem Ev.neg {α : Type} {p : Prop} [Decidable p] (h : ¬ p) {f g : Nat → Option α} {r : α} (k : Ev g r) : Ev (fun n => if p then f n else g n) r :=
  Ev.congr (fun _ => if_neg h) k
theorem tmod_nat {x : Int} (h0 : 0 ≤ x) (N : Nat) : ∃ c : Nat, Int.tmod x ((N + 1 : Nat) : Int) = (c : Int) ∧ c ≤ N := by
  obtain ⟨c, hc⟩ := Int.eq_ofNat_of_zero_le (Int.tmod_nonneg ((N + 1 : Nat) : Int) h0)
  have hlt := Int.tmod_lt_of_pos x (show (0 : Int) < ((N + 1 : Nat) : Int) by omega)
  rw [hc] at hlt
  exact ⟨c, hc, by omega⟩

theorem strOfNums_size (xs : List Int) : (strOfNums xs).size = xs.length := by simp [strOfNums, ByteArray.size]
theorem str_ext {a b : ByteArray} (h : a.data.toList = b.data.toList) : a = b := by
  apply ByteArray.ext
  exact Array.toList_inj.1 h
theorem str_app (a b : ByteArray) : (a ++ b).data.toList = a.data.toList ++ b.data.toList := by simp [ByteArray.data_append]
theorem str_cut (s : ByteArray) (a b : Nat) : (s.extract a b).data.toList = (s.data.toList.drop a).take (b - a) := by
  obtain ⟨⟨l⟩⟩ := s
  simp [ByteArray.data_extract, List.extract_eq_take_drop]
theorem str_len (s : ByteArray) : s.data.toList.length = s.size := rfl
theorem str_toList {a b : ByteArray} : a.toList = b.toList ↔ a = b := by
  rw [ByteArray.toList_eq, ByteArray.toList_eq]
  exact ⟨str_ext, fun h => by rw [h]⟩
theorem str_split (s : ByteArray) (n : Nat) (h : n ≤ s.size) : s.extract 0 n ++ s.extract n s.size = s := by
  apply str_ext
  rw [str_app, str_cut, str_cut, List.drop_zero, Nat.sub_zero, List.take_of_length_le (l := s.data.toList.drop n) (by simp [str_len]), List.take_append_drop]
theorem str_app_inj {a b c : ByteArray} (h : a ++ b = a ++ c) : b = c := by
  have := congrArg (fun s : ByteArray => s.data.toList) h
  simp only [str_app] at this
  exact str_ext (List.append_cancel_left this)
theorem cut_size (s : ByteArray) {n : Nat} (h : n ≤ s.size) : (s.extract 0 n).size = n := by
  rw [ByteArray.size_extract]
  omega

/- Plain law: the field of bytes (polynomials over bits modulo 285), over natural numbers. -/
namespace Gf

/-- One step: times x. -/
def xt (a : Nat) : Nat := if 255 < 2 * a then (2 * a) ^^^ 285 else 2 * a

/-- The product, bit by bit of b. -/
def gm : Nat → Nat → Nat → Nat
  | 0, _, _ => 0
  | n + 1, a, b => (if b % 2 = 1 then a else 0) ^^^ gm n (xt a) (b / 2)

def mul (a b : Nat) : Nat := gm 8 a b

theorem xor_mod2 (a b : Nat) : (a ^^^ b) % 2 = (a % 2 + b % 2) % 2 := by
  have h := Nat.testBit_xor (x := a) (y := b) (i := 0)
  simp only [Nat.testBit_zero] at h
  have hX : (a ^^^ b) % 2 < 2 := Nat.mod_lt _ (by omega)
  have h1 : a % 2 = 0 ∨ a % 2 = 1 := by omega
  have h2 : b % 2 = 0 ∨ b % 2 = 1 := by omega
  generalize (a ^^^ b) % 2 = X at h hX ⊢
  rcases h1 with h1 | h1 <;> rcases h2 with h2 | h2 <;> rw [h1, h2] at h ⊢ <;> simp at h <;> omega

theorem xor_div2 (a b : Nat) : (a ^^^ b) / 2 = (a / 2) ^^^ (b / 2) := Nat.xor_div_two

theorem xor_lt {a b n : Nat} (ha : a < 2 ^ n) (hb : b < 2 ^ n) : a ^^^ b < 2 ^ n := Nat.xor_lt_two_pow ha hb

theorem xt_lt {a : Nat} (h : a < 256) : xt a < 256 := by
  have : ∀ a : Fin 256, xt a.val < 256 := by decide +kernel
  exact this ⟨a, h⟩

theorem two_mul_xor (a b : Nat) : 2 * (a ^^^ b) = (2 * a) ^^^ (2 * b) := by
  have h := Nat.shiftLeft_xor_distrib (a := a) (b := b) (i := 1)
  simp only [Nat.shiftLeft_eq, Nat.pow_one] at h
  rw [Nat.mul_comm 2, Nat.mul_comm 2, Nat.mul_comm 2]
  exact h

theorem top_xor {a b : Nat} (ha : a < 256) (hb : b < 256) : (a ^^^ b) / 128 = (a / 128 + b / 128) % 2 := by
  have h : ((a ^^^ b) >>> 7) = (a >>> 7) ^^^ (b >>> 7) := Nat.shiftRight_xor_distrib
  simp only [Nat.shiftRight_eq_div_pow] at h
  have h1 : a / 2 ^ 7 < 2 := by omega
  have h2 : b / 2 ^ 7 < 2 := by omega
  have h3 := xor_mod2 (a / 2 ^ 7) (b / 2 ^ 7)
  have h4 : (a / 2 ^ 7) ^^^ (b / 2 ^ 7) < 2 ^ 1 := xor_lt (by omega) (by omega)
  omega

theorem xt_eq {a : Nat} (h : a < 256) : xt a = (2 * a) ^^^ (if a / 128 = 1 then 285 else 0) := by
  unfold xt
  by_cases h1 : 255 < 2 * a
  · rw [if_pos h1, if_pos (by omega)]
  · rw [if_neg h1, if_neg (by omega), Nat.xor_zero]

theorem xt_xor {a b : Nat} (ha : a < 256) (hb : b < 256) : xt (a ^^^ b) = xt a ^^^ xt b := by
  have hab : a ^^^ b < 256 := xor_lt (n := 8) ha hb
  rw [xt_eq ha, xt_eq hb, xt_eq hab, two_mul_xor, top_xor ha hb]
  have h1 : a / 128 = 0 ∨ a / 128 = 1 := by omega
  have h2 : b / 128 = 0 ∨ b / 128 = 1 := by omega
  rcases h1 with h1 | h1 <;> rcases h2 with h2 | h2 <;> rw [h1, h2] <;> simp
  · ac_rfl
  · ac_rfl
  · rw [show (2 * a ^^^ 285) ^^^ (2 * b ^^^ 285) = (285 ^^^ 285) ^^^ (2 * a ^^^ 2 * b) by ac_rfl, Nat.xor_self, Nat.zero_xor]

theorem gm_lt (n : Nat) : ∀ {a : Nat} (b : Nat), a < 256 → gm n a b < 256 := by
  induction n with
  | zero => intro a b _; simp [gm]
  | succ n ih =>
    intro a b h
    unfold gm
    refine xor_lt (n := 8) ?_ (ih _ (xt_lt h))
    split <;> omega

theorem gm_xor_left (n : Nat) : ∀ {a c : Nat} (b : Nat), a < 256 → c < 256 → gm n (a ^^^ c) b = gm n a b ^^^ gm n c b := by
  induction n with
  | zero => intro a c b _ _; simp [gm]
  | succ n ih =>
    intro a c b ha hc
    simp only [gm]
    rw [xt_xor ha hc, ih _ (xt_lt ha) (xt_lt hc)]
    by_cases h : b % 2 = 1
    · simp only [if_pos h]; ac_rfl
    · simp only [if_neg h, Nat.zero_xor]

theorem gm_xor_right (n : Nat) : ∀ (a b c : Nat), gm n a (b ^^^ c) = gm n a b ^^^ gm n a c := by
  induction n with
  | zero => intro a b c; simp [gm]
  | succ n ih =>
    intro a b c
    simp only [gm]
    rw [xor_div2, ih, xor_mod2]
    have h1 : b % 2 = 0 ∨ b % 2 = 1 := by omega
    have h2 : c % 2 = 0 ∨ c % 2 = 1 := by omega
    rcases h1 with h1 | h1 <;> rcases h2 with h2 | h2 <;> rw [h1, h2] <;> simp
    · rw [← Nat.xor_assoc, Nat.xor_comm a, Nat.xor_assoc]
    · rw [Nat.xor_assoc]
    · have : a ^^^ gm n (xt a) (b / 2) ^^^ (a ^^^ gm n (xt a) (c / 2)) = (a ^^^ a) ^^^ (gm n (xt a) (b / 2) ^^^ gm n (xt a) (c / 2)) := by ac_rfl
      rw [this, Nat.xor_self, Nat.zero_xor]

theorem mul_lt {a : Nat} (b : Nat) (h : a < 256) : mul a b < 256 := gm_lt 8 b h
theorem mul_xor_left {a c : Nat} (b : Nat) (ha : a < 256) (hc : c < 256) : mul (a ^^^ c) b = mul a b ^^^ mul c b := gm_xor_left 8 b ha hc
theorem mul_xor_right (a b c : Nat) : mul a (b ^^^ c) = mul a b ^^^ mul a c := gm_xor_right 8 a b c

/-- Two functions that go through sums are one, if they are at the powers of two. -/
theorem add_ext (f g : Nat → Nat) (h0 : f 0 = g 0) (hf : ∀ a b, a < 256 → b < 256 → f (a ^^^ b) = f a ^^^ f b) (hg : ∀ a b, a < 256 → b < 256 → g (a ^^^ b) = g a ^^^ g b)
    (h : ∀ i, i < 8 → f (2 ^ i) = g (2 ^ i)) : ∀ a, a < 256 → f a = g a := by
  have key : ∀ n, n ≤ 8 → ∀ a, a < 2 ^ n → f a = g a := by
    intro n
    induction n with
    | zero => intro _ a ha; have : a = 0 := by omega
              rw [this, h0]
    | succ n ih =>
      intro hn a ha
      by_cases hlt : a < 2 ^ n
      · exact ih (by omega) a hlt
      · have h256 : 2 ^ (n + 1) ≤ 2 ^ 8 := Nat.pow_le_pow_right (by omega) hn
        have hs : 2 ^ (n + 1) = 2 * 2 ^ n := by rw [Nat.pow_succ]; omega
        have hr : a - 2 ^ n < 2 ^ n := by omega
        have he : a = 2 ^ n ^^^ (a - 2 ^ n) := by
          have h1 : 2 ^ n + (a - 2 ^ n) = 2 ^ n ^^^ (a - 2 ^ n) := by
            have := Nat.two_pow_add_eq_or_of_lt (i := n) (b := a - 2 ^ n) hr 1
            have h2 : (2 ^ n ||| (a - 2 ^ n)) = 2 ^ n ^^^ (a - 2 ^ n) := by
              apply Nat.eq_of_testBit_eq
              intro j
              rw [Nat.testBit_or, Nat.testBit_xor, Nat.testBit_two_pow]
              by_cases hj : n = j
              · subst hj
                rw [Nat.testBit_lt_two_pow hr]
                simp
              · simp [hj]
            rw [← h2]
            simpa using this
          omega
        rw [he, hf _ _ (by omega) (by omega), hg _ _ (by omega) (by omega), h n (by omega), ih (by omega) _ hr]
  intro a ha
  exact key 8 (Nat.le_refl _) a (by simpa using ha)

theorem mul_zero_right (a : Nat) : mul a 0 = 0 := by
  have : ∀ n a, gm n a 0 = 0 := by
    intro n
    induction n with
    | zero => intro a; rfl
    | succ n ih => intro a; simp [gm, ih]
  exact this 8 a
theorem mul_zero_left (b : Nat) : mul 0 b = 0 := by
  have : ∀ n b, gm n 0 b = 0 := by
    intro n
    induction n with
    | zero => intro b; rfl
    | succ n ih => intro b; simp [gm, xt, ih]
  exact this 8 b

theorem pow2_lt {i : Nat} (h : i < 8) : 2 ^ i < 256 := by
  have : 2 ^ i < 2 ^ 8 := Nat.pow_lt_pow_right (by omega) h
  omega

theorem mul_comm {a b : Nat} (ha : a < 256) (hb : b < 256) : mul a b = mul b a := by
  have base : ∀ i : Fin 8, ∀ j : Fin 8, mul (2 ^ i.val) (2 ^ j.val) = mul (2 ^ j.val) (2 ^ i.val) := by decide +kernel
  have step : ∀ i, i < 8 → ∀ b, b < 256 → mul (2 ^ i) b = mul b (2 ^ i) := by
    intro i hi
    refine add_ext (fun b => mul (2 ^ i) b) (fun b => mul b (2 ^ i)) ?_ ?_ ?_ ?_
    · show mul _ _ = mul _ _
      rw [mul_zero_right, mul_zero_left]
    · intro a b _ _; exact mul_xor_right _ _ _
    · intro a b ha hb; exact mul_xor_left _ ha hb
    · intro j hj; exact base ⟨i, hi⟩ ⟨j, hj⟩
  refine add_ext (fun a => mul a b) (fun a => mul b a) ?_ ?_ ?_ ?_ a ha
  · show mul _ _ = mul _ _
    rw [mul_zero_right, mul_zero_left]
  · intro a c ha hc; exact mul_xor_left _ ha hc
  · intro a c _ _; exact mul_xor_right _ _ _
  · intro i hi; exact step i hi b hb

theorem mul_assoc {a b c : Nat} (ha : a < 256) (hb : b < 256) (hc : c < 256) : mul (mul a b) c = mul a (mul b c) := by
  have base : ∀ i j k : Fin 8, mul (mul (2 ^ i.val) (2 ^ j.val)) (2 ^ k.val) = mul (2 ^ i.val) (mul (2 ^ j.val) (2 ^ k.val)) := by decide +kernel
  have s1 : ∀ i, i < 8 → ∀ j, j < 8 → ∀ c, c < 256 → mul (mul (2 ^ i) (2 ^ j)) c = mul (2 ^ i) (mul (2 ^ j) c) := by
    intro i hi j hj
    refine add_ext (fun c => mul (mul (2 ^ i) (2 ^ j)) c) (fun c => mul (2 ^ i) (mul (2 ^ j) c)) ?_ ?_ ?_ ?_
    · show mul _ _ = mul _ _
      rw [mul_zero_right, mul_zero_right, mul_zero_right]
    · intro a b _ _; exact mul_xor_right _ _ _
    · intro a b _ _
      show mul _ (mul _ _) = mul _ (mul _ _) ^^^ mul _ (mul _ _)
      rw [mul_xor_right, mul_xor_right]
    · intro k hk; exact base ⟨i, hi⟩ ⟨j, hj⟩ ⟨k, hk⟩
  have s2 : ∀ i, i < 8 → ∀ b, b < 256 → mul (mul (2 ^ i) b) c = mul (2 ^ i) (mul b c) := by
    intro i hi
    refine add_ext (fun b => mul (mul (2 ^ i) b) c) (fun b => mul (2 ^ i) (mul b c)) ?_ ?_ ?_ ?_
    · show mul (mul _ _) _ = mul _ (mul _ _)
      rw [mul_zero_right, mul_zero_left, mul_zero_right]
    · intro a b ha hb
      show mul (mul _ _) _ = mul (mul _ _) _ ^^^ mul (mul _ _) _
      rw [mul_xor_right, mul_xor_left _ (mul_lt _ (pow2_lt hi)) (mul_lt _ (pow2_lt hi))]
    · intro a b ha hb
      show mul _ (mul _ _) = mul _ (mul _ _) ^^^ mul _ (mul _ _)
      rw [mul_xor_left _ ha hb, mul_xor_right]
    · intro j hj; exact s1 i hi j hj c hc
  refine add_ext (fun a => mul (mul a b) c) (fun a => mul a (mul b c)) ?_ ?_ ?_ ?_ a ha
  · show mul (mul _ _) _ = mul _ (mul _ _)
    rw [mul_zero_left, mul_zero_left, mul_zero_left]
  · intro x y hx hy
    show mul (mul _ _) _ = mul (mul _ _) _ ^^^ mul (mul _ _) _
    rw [mul_xor_left _ hx hy, mul_xor_left _ (mul_lt _ hx) (mul_lt _ hy)]
  · intro x y hx hy; exact mul_xor_left _ hx hy
  · intro i hi; exact s2 i hi b hb

theorem mul_one_right {a : Nat} : mul a 1 = a := by
  unfold mul
  simp only [gm]
  simp

theorem mul_one_left {a : Nat} (h : a < 256) : mul 1 a = a := by
  rw [mul_comm (by omega) h, mul_one_right]

def pow (a : Nat) : Nat → Nat
  | 0 => 1
  | n + 1 => mul (pow a n) a

theorem pow_lt {a : Nat} (h : a < 256) : ∀ n, pow a n < 256
  | 0 => by simp [pow]
  | n + 1 => mul_lt _ (pow_lt h n)

theorem pow_add {a : Nat} (h : a < 256) (n m : Nat) : pow a (n + m) = mul (pow a n) (pow a m) := by
  induction m with
  | zero => simp [pow, mul_one_right]
  | succ m ih =>
    show mul (pow a (n + m)) a = mul (pow a n) (mul (pow a m) a)
    rw [ih, mul_assoc (pow_lt h n) (pow_lt h m) h]

def sq (a : Nat) : Nat := mul a a
/-- a 254 times, by squares. -/
def inv254 (a : Nat) : Nat :=
  let a2 := sq a
  let a4 := sq a2
  let a8 := sq a4
  let a16 := sq a8
  let a32 := sq a16
  let a64 := sq a32
  let a128 := sq a64
  mul (mul (mul (mul (mul (mul a128 a64) a32) a16) a8) a4) a2

theorem pow_dbl {a : Nat} (h : a < 256) (n : Nat) : pow a (n + n) = sq (pow a n) := pow_add h n n

theorem pow_254 {a : Nat} (h : a < 256) : pow a 254 = inv254 a := by
  have p1 : pow a 1 = a := by show mul 1 a = a; exact mul_one_left h
  have p2 : pow a 2 = sq a := by rw [show (2 : Nat) = 1 + 1 from rfl, pow_dbl h, p1]
  have p4 : pow a 4 = sq (sq a) := by rw [show (4 : Nat) = 2 + 2 from rfl, pow_dbl h, p2]
  have p8 : pow a 8 = sq (sq (sq a)) := by rw [show (8 : Nat) = 4 + 4 from rfl, pow_dbl h, p4]
  have p16 : pow a 16 = sq (sq (sq (sq a))) := by rw [show (16 : Nat) = 8 + 8 from rfl, pow_dbl h, p8]
  have p32 : pow a 32 = sq (sq (sq (sq (sq a)))) := by rw [show (32 : Nat) = 16 + 16 from rfl, pow_dbl h, p16]
  have p64 : pow a 64 = sq (sq (sq (sq (sq (sq a))))) := by rw [show (64 : Nat) = 32 + 32 from rfl, pow_dbl h, p32]
  have p128 : pow a 128 = sq (sq (sq (sq (sq (sq (sq a)))))) := by rw [show (128 : Nat) = 64 + 64 from rfl, pow_dbl h, p64]
  rw [show (254 : Nat) = 128 + 64 + 32 + 16 + 8 + 4 + 2 from rfl, pow_add h, pow_add h, pow_add h, pow_add h, pow_add h, pow_add h, p128, p64, p32, p16, p8, p4, p2]
  rfl

theorem mul_inv {a : Nat} (h : a < 256) (h0 : a ≠ 0) : mul a (pow a 254) = 1 := by
  rw [pow_254 h]
  have key : ∀ a : Fin 256, a.val ≠ 0 → mul a.val (inv254 a.val) = 1 := by decide +kernel
  exact key ⟨a, h⟩ h0

/-- What is 1 with a is a 254 times. -/
theorem inv_unique {a b : Nat} (ha : a < 256) (hb : b < 256) (h : mul a b = 1) : b = pow a 254 := by
  have h0 : a ≠ 0 := by
    rintro rfl
    rw [mul_zero_left] at h
    omega
  have hp := pow_lt ha 254
  have h1 : mul (mul (pow a 254) a) b = b := by
    rw [mul_comm hp ha, mul_inv ha h0, mul_one_left hb]
  rw [mul_assoc hp ha hb, h, mul_one_right] at h1
  exact h1.symm

theorem pow_zero_base (n : Nat) : pow 0 (n + 1) = 0 := mul_zero_right _

end Gf

/-! ### products of bytes -/
def modb (a : Int) : Nat := (a % 256).toNat
theorem modb_lt (a : Int) : modb a < 256 := by unfold modb; omega
theorem modb_nat {a : Nat} (h : a < 256) : modb (a : Int) = a := by unfold modb; omega
theorem bits_xor64 {a b : Nat} (ha : a < 2 ^ 63) (hb : b < 2 ^ 63) : Go.bits .xor .i64 (a : Int) (b : Int) = ((a ^^^ b : Nat) : Int) := by
  have hx : a ^^^ b < 2 ^ 63 := Nat.xor_lt_two_pow ha hb
  have e : (BitVec.ofNat 64 a ^^^ BitVec.ofNat 64 b).toNat = a ^^^ b := by rw [BitVec.toNat_xor, BitVec.toNat_ofNat, BitVec.toNat_ofNat, Nat.mod_eq_of_lt (by omega), Nat.mod_eq_of_lt (by omega)]
  show IntKind.i64.wrap (((BitVec.ofInt 64 (a : Int)) ^^^ (BitVec.ofInt 64 (b : Int))).toNat : Int) = _
  rw [BitVec.ofInt_natCast, BitVec.ofInt_natCast, e, IntKind.wrap_i64]
  omega
theorem bits_and255 {a : Int} (h0 : -9223372036854775808 ≤ a) (h1 : a ≤ 9223372036854775807) : Go.bits .and .i64 a 255 = ((modb a : Nat) : Int) := by
  have e : ((BitVec.ofInt 64 a) &&& (BitVec.ofInt 64 255)).toNat = (a % 18446744073709551616).toNat % 256 := by
    rw [BitVec.toNat_and, BitVec.toNat_ofInt, show (BitVec.ofInt 64 255).toNat = 2 ^ 8 - 1 by decide, Nat.and_two_pow_sub_one_eq_mod]
    rfl
  show IntKind.i64.wrap (((BitVec.ofInt 64 a) &&& (BitVec.ofInt 64 255)).toNat : Int) = _
  rw [e, IntKind.wrap_i64]
  unfold modb
  omega
theorem bits_and1 {b : Nat} (h : b < 256) : Go.bits .and .i64 (b : Int) 1 = ((b % 2 : Nat) : Int) := by
  have e : ((BitVec.ofInt 64 (b : Int)) &&& (BitVec.ofInt 64 1)).toNat = b % 2 := by
    rw [BitVec.toNat_and, BitVec.ofInt_natCast, BitVec.toNat_ofNat, show (BitVec.ofInt 64 1).toNat = 2 ^ 1 - 1 by decide, Nat.and_two_pow_sub_one_eq_mod]
    show b % 2 ^ 64 % 2 ^ 1 = b % 2
    omega
  show IntKind.i64.wrap (((BitVec.ofInt 64 (b : Int)) &&& (BitVec.ofInt 64 1)).toNat : Int) = _
  rw [e, IntKind.wrap_i64]
  omega
def gmul (a b : Int) : Int := ((Gf.mul (modb a) (modb b) : Nat) : Int)
theorem gmul_range (a b : Int) : 0 ≤ gmul a b ∧ gmul a b ≤ 255 := by
  unfold gmul
  have := Gf.mul_lt (modb b) (modb_lt a)
  omega
theorem modb_gmul (a b : Int) : modb (gmul a b) = Gf.mul (modb a) (modb b) := modb_nat (Gf.mul_lt _ (modb_lt a))

theorem spec_l05Mod_eq {a : Int} (h0 : -9223372036854775808 ≤ a) (h1 : a ≤ 9223372036854775807) : spec_l05Mod.f a = some ((modb a : Nat) : Int) := by
  have e : Int.tmod a 256 = if a < 0 ∧ a % 256 ≠ 0 then a % 256 - 256 else a % 256 := by
    rcases Int.lt_or_le a 0 with h | h
    · obtain ⟨n, rfl⟩ : ∃ n : Nat, a = -(n : Int) := ⟨(-a).toNat, by omega⟩
      rw [Int.neg_tmod, Int.tmod_eq_emod_of_nonneg (by omega)]
      split <;> omega
    · rw [Int.tmod_eq_emod_of_nonneg h, if_neg (by omega)]
  unfold spec_l05Mod.f modb
  rw [e]
  by_cases c : a < 0 ∧ a % 256 ≠ 0
  · rw [if_pos c, if_pos (by omega), w64 (by omega) (by omega)]
    congr 1
    omega
  · rw [if_neg c, if_neg (by omega)]
    congr 1
    omega
theorem spec_MulG_l0 (n : Nat) : ∀ (a b out : Nat), a < 256 → b < 2 ^ n → n ≤ 8 → out < 256 → Ev (fun k => spec_MulG.l0 k (a : Int) (b : Int) (out : Int)) ((out ^^^ Gf.gm n a b : Nat) : Int) := by
  induction n with
  | zero =>
    intro a b out ha hb hn ho
    have hb0 : b = 0 := by omega
    subst hb0
    exact Ev.step (f := fun _ => some (out : Int)) (fun k => by simp only [spec_MulG.l0]; rw [if_neg (by omega)]) (by simpa [Gf.gm] using Ev.now _)
  | succ n ih =>
    intro a b out ha hb hn ho
    by_cases hb0 : b = 0
    · subst hb0
      have hz : Gf.gm (n + 1) a 0 = 0 := by
        have : ∀ n a, Gf.gm n a 0 = 0 := by
          intro n
          induction n with
          | zero => intro a; rfl
          | succ n ih => intro a; simp [Gf.gm, ih]
        exact this _ _
      rw [hz, Nat.xor_zero]
      exact Ev.step (f := fun _ => some (out : Int)) (fun k => by simp only [spec_MulG.l0]; rw [if_neg (by omega)]) (Ev.now _)
    · have h8 : 2 ^ n ≤ 2 ^ 8 := Nat.pow_le_pow_right (by omega) (by omega)
      have h9 : 2 ^ (n + 1) = 2 * 2 ^ n := by rw [Nat.pow_succ]; omega
      have h10 : 2 ^ (n + 1) ≤ 2 ^ 8 := Nat.pow_le_pow_right (by omega) hn
      have hm : Int.tmod (b : Int) 2 = ((b % 2 : Nat) : Int) := by rw [Int.tmod_eq_emod_of_nonneg (by omega)]; rfl
      have hd : wrap64 (Int.tdiv (b : Int) 2) = ((b / 2 : Nat) : Int) := by rw [Int.tdiv_eq_ediv_of_nonneg (by omega), w64 (by omega) (by omega)]; rfl
      have h2 : wrap64 (2 * (a : Int)) = ((2 * a : Nat) : Int) := by rw [w64 (by omega) (by omega)]; rfl
      have hx : ∀ m : Nat, m < 256 → (out ^^^ (if b % 2 = 1 then a else 0) ^^^ Gf.gm n (Gf.xt a) (b / 2)) = (out ^^^ Gf.gm (n + 1) a b) := by
        intro m _
        rw [Gf.gm, Nat.xor_assoc]
      have hxa : Go.bits .xor .i64 (out : Int) (a : Int) = ((out ^^^ a : Nat) : Int) := bits_xor64 (by omega) (by omega)
      have hx5 : Go.bits .xor .i64 ((2 * a : Nat) : Int) 285 = ((2 * a ^^^ 285 : Nat) : Int) := bits_xor64 (b := 285) (by omega) (by omega)
      rw [← hx 0 (by omega)]
      have hlt : out ^^^ (if b % 2 = 1 then a else 0) < 256 := Gf.xor_lt (n := 8) ho (by split <;> omega)
      refine Ev.step (f := fun k => spec_MulG.l0 k ((Gf.xt a : Nat) : Int) ((b / 2 : Nat) : Int) ((out ^^^ (if b % 2 = 1 then a else 0) : Nat) : Int)) (fun k => ?_) (ih _ _ _ (Gf.xt_lt ha) (by omega) (by omega) hlt)
      simp only [spec_MulG.l0, hm, hd, h2, hxa, hx5]
      rw [if_pos (by omega)]
      unfold Gf.xt
      by_cases c1 : b % 2 = 1 <;> by_cases c2 : 255 < 2 * a
      · rw [if_pos (by omega), if_pos (by omega), if_pos c1, if_pos c2]
      · rw [if_pos (by omega), if_neg (by omega), if_pos c1, if_neg c2]
      · rw [if_neg (by omega), if_pos (by omega), if_neg c1, if_pos c2, Nat.xor_zero]
      · rw [if_neg (by omega), if_neg (by omega), if_neg c1, if_neg c2, Nat.xor_zero]
theorem spec_MulG_ev {a b : Int} (a0 : -9223372036854775808 ≤ a) (a1 : a ≤ 9223372036854775807) (b0 : -9223372036854775808 ≤ b) (b1 : b ≤ 9223372036854775807) : Ev (fun k => spec_MulG.f k a b) (gmul a b) := by
  have h := spec_MulG_l0 8 (modb a) (modb b) 0 (modb_lt a) (modb_lt b) (Nat.le_refl _) (by omega)
  rw [Nat.zero_xor] at h
  refine Ev.congr (fun k => ?_) h
  unfold spec_MulG.f
  rw [spec_l05Mod_eq a0 a1, spec_l05Mod_eq b0 b1]
  rfl

theorem impl_MulG_l0 (n : Nat) : ∀ (a b out : Nat), a < 256 → b < 2 ^ n → n ≤ 8 → out < 256 → Ev (fun k => impl_MulG.l0 k (a : Int) (b : Int) (out : Int)) ((out ^^^ Gf.gm n a b : Nat) : Int) := by
  induction n with
  | zero =>
    intro a b out ha hb hn ho
    have hb0 : b = 0 := by omega
    subst hb0
    exact Ev.step (f := fun _ => some (out : Int)) (fun k => by simp only [impl_MulG.l0]; rw [if_neg (by omega)]) (by simpa [Gf.gm] using Ev.now _)
  | succ n ih =>
    intro a b out ha hb hn ho
    by_cases hb0 : b = 0
    · subst hb0
      have hz : Gf.gm (n + 1) a 0 = 0 := by
        have : ∀ n a, Gf.gm n a 0 = 0 := by
          intro n
          induction n with
          | zero => intro a; rfl
          | succ n ih => intro a; simp [Gf.gm, ih]
        exact this _ _
      rw [hz, Nat.xor_zero]
      exact Ev.step (f := fun _ => some (out : Int)) (fun k => by simp only [impl_MulG.l0]; rw [if_neg (by omega)]) (Ev.now _)
    · have h8 : 2 ^ n ≤ 2 ^ 8 := Nat.pow_le_pow_right (by omega) (by omega)
      have h9 : 2 ^ (n + 1) = 2 * 2 ^ n := by rw [Nat.pow_succ]; omega
      have h10 : 2 ^ (n + 1) ≤ 2 ^ 8 := Nat.pow_le_pow_right (by omega) hn
      have hm : Go.bits .and .i64 (b : Int) 1 = ((b % 2 : Nat) : Int) := bits_and1 (by omega)
      have hd : (b : Int) / 2 = ((b / 2 : Nat) : Int) := rfl
      have h2 : wrap64 ((a : Int) * 2) = ((2 * a : Nat) : Int) := by rw [w64 (by omega) (by omega)]; omega
      have hx : (out ^^^ (if b % 2 = 1 then a else 0) ^^^ Gf.gm n (Gf.xt a) (b / 2)) = (out ^^^ Gf.gm (n + 1) a b) := by
        rw [Gf.gm, Nat.xor_assoc]
      have hxa : Go.bits .xor .i64 (out : Int) (a : Int) = ((out ^^^ a : Nat) : Int) := bits_xor64 (by omega) (by omega)
      have hx5 : Go.bits .xor .i64 ((2 * a : Nat) : Int) 285 = ((2 * a ^^^ 285 : Nat) : Int) := bits_xor64 (b := 285) (by omega) (by omega)
      rw [← hx]
      have hlt : out ^^^ (if b % 2 = 1 then a else 0) < 256 := Gf.xor_lt (n := 8) ho (by split <;> omega)
      refine Ev.step (f := fun k => impl_MulG.l0 k ((Gf.xt a : Nat) : Int) ((b / 2 : Nat) : Int) ((out ^^^ (if b % 2 = 1 then a else 0) : Nat) : Int)) (fun k => ?_) (ih _ _ _ (Gf.xt_lt ha) (by omega) (by omega) hlt)
      simp only [impl_MulG.l0, hm, hd, h2, hxa, hx5]
      rw [if_pos (by omega)]
      unfold Gf.xt
      by_cases c1 : b % 2 = 1 <;> by_cases c2 : 255 < 2 * a
      · rw [if_pos (by omega), if_pos (by omega), if_pos c1, if_pos c2]
      · rw [if_pos (by omega), if_neg (by omega), if_pos c1, if_neg c2]
      · rw [if_neg (by omega), if_pos (by omega), if_neg c1, if_pos c2, Nat.xor_zero]
      · rw [if_neg (by omega), if_neg (by omega), if_neg c1, if_neg c2, Nat.xor_zero]
theorem impl_MulG_ev {a b : Int} (a0 : -9223372036854775808 ≤ a) (a1 : a ≤ 9223372036854775807) (b0 : -9223372036854775808 ≤ b) (b1 : b ≤ 9223372036854775807) : Ev (fun k => impl_MulG.f k a b) (gmul a b) := by
  have h := impl_MulG_l0 8 (modb a) (modb b) 0 (modb_lt a) (modb_lt b) (Nat.le_refl _) (by omega)
  rw [Nat.zero_xor] at h
  refine Ev.congr (fun k => ?_) h
  unfold impl_MulG.f
  rw [bits_and255 a0 a1, bits_and255 b0 b1]
  rfl

/-! ### lists of bytes as numbers -/
def ints (l : List UInt8) : List Int := l.map fun b => (b.toNat : Int)
theorem ints_length (l : List UInt8) : (ints l).length = l.length := by simp [ints]
theorem ints_app (l m : List UInt8) : ints (l ++ m) = ints l ++ ints m := by simp [ints]
theorem bytesOf_ints (s : ByteArray) : bytesOf s = ints s.data.toList := rfl
theorem str_ints (l : List UInt8) : strOfNums (ints l) = ⟨l.toArray⟩ := by
  unfold strOfNums ints
  congr 1
  rw [List.map_map]
  congr 1
  conv => rhs; rw [← List.map_id l]
  refine List.map_congr_left (fun b _ => ?_)
  simp
theorem set_mid {α : Type} (A : List α) (x v : α) (B : List α) : (A ++ x :: B).set A.length v = A ++ v :: B := by simp
theorem rd_mid (A : List Int) (x : Int) (B : List Int) : rd (A ++ x :: B) (A.length : Int) = x := by simp [rd]
theorem bt_mid (s : ByteArray) {A : List UInt8} {x : UInt8} {B : List UInt8} (h : s.data.toList = A ++ x :: B) : bt s (A.length : Int) = (x.toNat : Int) := by
  have hl : A.length < s.size := by
    have h1 : s.data.toList.length = s.size := rfl
    rw [h] at h1
    simp at h1
    omega
  unfold bt
  rw [dif_pos (by simpa using hl)]
  have e : s.data.toList[A.length]'(by simpa using hl) = x := by simp [h]
  show (((s.data[A.length]'hl).toNat : Nat) : Int) = _
  rw [← e]
  simp
theorem size_of_list (s : ByteArray) {l : List UInt8} (h : s.data.toList = l) : s.size = l.length := by
  have h1 : s.data.toList.length = s.size := rfl
  rw [h] at h1
  omega

/-! ### a text so many times -/
def mulB (a : Nat) (b : UInt8) : UInt8 := UInt8.ofNat (Gf.mul a b.toNat)
def mulL (a : Nat) (l : List UInt8) : List UInt8 := l.map (mulB a)
def mulT (a : Nat) (s : ByteArray) : ByteArray := ⟨(mulL a s.data.toList).toArray⟩
theorem mulB_nat {a : Nat} (ha : a < 256) (b : UInt8) : (mulB a b).toNat = Gf.mul a b.toNat := by
  have := Gf.mul_lt b.toNat ha
  simp only [mulB, UInt8.toNat_ofNat']
  omega
theorem gmul_byte (a : Int) (b : UInt8) : gmul a (b.toNat : Int) = ((mulB (modb a) b).toNat : Int) := by
  have := b.toNat_lt
  rw [mulB_nat (modb_lt a)]
  unfold gmul
  rw [modb_nat (by omega)]

theorem spec_MulText_l0 {a : Int} (a0 : -9223372036854775808 ≤ a) (a1 : a ≤ 9223372036854775807) : ∀ (rest done : List UInt8), done.length + rest.length ≤ 1073741824 →
    Ev (fun k => spec_MulText.l0 k a (ints (done ++ rest)) (done.length : Int)) (strOfNums (ints (done ++ mulL (modb a) rest))) := by
  intro rest
  induction rest with
  | nil =>
    intro done _
    refine Ev.step (f := fun _ => some (strOfNums (ints (done ++ mulL (modb a) [])))) (fun k => ?_) (Ev.now _)
    simp only [spec_MulText.l0]
    rw [if_neg (by rw [ints_length]; simp)]
    rfl
  | cons b rest ih =>
    intro done hl
    have hb := b.toNat_lt
    simp only [List.length_cons] at hl
    refine Ev.step (f := fun k => (spec_MulG.f k a (b.toNat : Int)).bind fun t => spec_MulText.l0 k a ((ints (done ++ b :: rest)).set done.length (t % 256)) ((done.length + 1 : Nat) : Int)) (fun k => ?_) (Ev.bind (spec_MulG_ev a0 a1 (by omega) (by omega)) ?_)
    · simp only [spec_MulText.l0]
      rw [if_pos (by rw [ints_length, List.length_append, List.length_cons]; omega), if_pos (by omega), wsucc (by omega)]
      have e : rd (ints (done ++ b :: rest)) (done.length : Int) = (b.toNat : Int) := by
        have := rd_mid (ints done) (b.toNat : Int) (ints rest)
        rw [ints_length] at this
        rw [ints_app]
        exact this
      rw [e, wnat (by omega)]
      rfl
    · have e : (ints (done ++ b :: rest)).set done.length (gmul a (b.toNat : Int) % 256) = ints ((done ++ [mulB (modb a) b]) ++ rest) := by
        have h1 := set_mid (ints done) (b.toNat : Int) (gmul a (b.toNat : Int) % 256) (ints rest)
        rw [ints_length] at h1
        have h2 := gmul_range a (b.toNat : Int)
        rw [ints_app]
        refine Eq.trans h1 ?_
        rw [show gmul a (b.toNat : Int) % 256 = ((mulB (modb a) b).toNat : Int) by rw [← gmul_byte]; omega]
        simp [ints]
      rw [e]
      have h := ih (done ++ [mulB (modb a) b]) (by simp; omega)
      rw [List.length_append] at h
      rw [show done ++ mulL (modb a) (b :: rest) = done ++ [mulB (modb a) b] ++ mulL (modb a) rest by simp [mulL]]
      exact h
theorem spec_MulText_ev {a : Int} (a0 : -9223372036854775808 ≤ a) (a1 : a ≤ 9223372036854775807) (s : ByteArray) (hs : s.size ≤ 1073741824) : Ev (fun k => spec_MulText.f k a s) (mulT (modb a) s) := by
  unfold spec_MulText.f
  refine Ev.pos (by omega) ?_
  have h := spec_MulText_l0 a0 a1 s.data.toList [] (by rw [str_len]; simpa using hs)
  rw [str_ints] at h
  exact h

theorem impl_MulText_l0 {a : Int} (a0 : -9223372036854775808 ≤ a) (a1 : a ≤ 9223372036854775807) (s : ByteArray) (hs : s.size ≤ 1073741824) : ∀ (rest pre done : List UInt8), s.data.toList = pre ++ rest → pre.length = done.length →
    Ev (fun k => impl_MulText.l0 k a s (ints done ++ List.replicate rest.length 0) (s.size : Int) (done.length : Int)) (strOfNums (ints (done ++ mulL (modb a) rest))) := by
  intro rest
  induction rest with
  | nil =>
    intro pre done he hp
    have hsz := size_of_list s he
    simp only [List.append_nil] at hsz
    refine Ev.step (f := fun _ => some (strOfNums (ints (done ++ mulL (modb a) [])))) (fun k => ?_) (Ev.now _)
    simp only [impl_MulText.l0]
    rw [if_neg (by omega)]
    simp [mulL]
  | cons b rest ih =>
    intro pre done he hp
    have hb := b.toNat_lt
    have hsz := size_of_list s he
    simp only [List.length_append, List.length_cons] at hsz
    refine Ev.step (f := fun k => (impl_MulG.f k a (b.toNat : Int)).bind fun t => impl_MulText.l0 k a s ((ints done ++ 0 :: List.replicate rest.length 0).set done.length (t % 256)) (s.size : Int) ((done.length + 1 : Nat) : Int)) (fun k => ?_) (Ev.bind (impl_MulG_ev a0 a1 (by omega) (by omega)) ?_)
    · simp only [impl_MulText.l0]
      have e := bt_mid s he
      rw [hp] at e
      rw [if_pos (by omega), if_pos (by omega), if_pos (by omega), wsucc (by omega), e, wnat (by omega)]
      congr 1
      funext t
      rw [if_pos (by rw [List.length_append, ints_length, List.length_replicate, List.length_cons]; omega)]
      rfl
    · have e : (ints done ++ 0 :: List.replicate rest.length 0).set done.length (gmul a (b.toNat : Int) % 256) = ints (done ++ [mulB (modb a) b]) ++ List.replicate rest.length 0 := by
        have h1 := set_mid (ints done) 0 (gmul a (b.toNat : Int) % 256) (List.replicate rest.length 0)
        rw [ints_length] at h1
        have h2 := gmul_range a (b.toNat : Int)
        rw [h1, show gmul a (b.toNat : Int) % 256 = ((mulB (modb a) b).toNat : Int) by rw [← gmul_byte]; omega]
        simp [ints]
      rw [e]
      have h := ih (pre ++ [b]) (done ++ [mulB (modb a) b]) (by rw [he]; simp) (by simp; omega)
      rw [List.length_append] at h
      rw [show done ++ mulL (modb a) (b :: rest) = done ++ [mulB (modb a) b] ++ mulL (modb a) rest by simp [mulL]]
      exact h
theorem impl_MulText_ev {a : Int} (a0 : -9223372036854775808 ≤ a) (a1 : a ≤ 9223372036854775807) (s : ByteArray) (hs : s.size ≤ 1073741824) : Ev (fun k => impl_MulText.f k a s) (mulT (modb a) s) := by
  unfold impl_MulText.f
  refine Ev.pos (by omega) (Ev.pos (by omega) (Ev.some_bind rfl ?_))
  have h := impl_MulText_l0 a0 a1 s hs s.data.toList [] [] rfl rfl
  rw [str_len, str_ints] at h
  simp only [ints, List.map_nil, List.nil_append, List.length_nil] at h
  simp only [Int.toNat_natCast, List.length_replicate]
  exact h

/-! ### sums of texts -/
def addL : List UInt8 → List UInt8 → List UInt8
  | [], ys => ys
  | xs, [] => xs
  | x :: xs, y :: ys => (x ^^^ y) :: addL xs ys
def addT (a b : ByteArray) : ByteArray := ⟨(addL a.data.toList b.data.toList).toArray⟩
theorem addL_nil (xs : List UInt8) : addL xs [] = xs := by cases xs <;> rfl
theorem nil_addL (xs : List UInt8) : addL [] xs = xs := rfl
theorem addL_comm : ∀ xs ys : List UInt8, addL xs ys = addL ys xs
  | [], ys => by rw [addL_nil]; rfl
  | x :: xs, [] => rfl
  | x :: xs, y :: ys => by simp only [addL]; rw [addL_comm xs ys, UInt8.xor_comm]
theorem addL_length : ∀ xs ys : List UInt8, (addL xs ys).length = max xs.length ys.length
  | [], ys => by simp [addL]
  | x :: xs, [] => by simp [addL]
  | x :: xs, y :: ys => by simp only [addL, List.length_cons, addL_length xs ys]; omega
theorem addL_zeros : ∀ (xs ys : List UInt8) (n : Nat), xs.length + n = max xs.length ys.length → addL (xs ++ List.replicate n 0) ys = addL xs ys
  | [], [], 0, _ => rfl
  | [], [], n + 1, h => by simp at h
  | [], y :: ys, 0, h => by simp at h
  | [], y :: ys, n + 1, h => by
    have ih := addL_zeros [] ys n (by simp at h ⊢; exact h)
    simp only [List.nil_append, List.replicate_succ, addL] at ih ⊢
    rw [ih, UInt8.zero_xor]
  | x :: xs, [], n, h => by
    have : n = 0 := by simp at h; exact h
    subst this
    simp
  | x :: xs, y :: ys, n, h => by
    simp only [List.cons_append, addL]
    rw [addL_zeros xs ys n (by simp only [List.length_cons] at h; omega)]
theorem bits_xor8 (a b : UInt8) : Go.bits .xor .u8 (a.toNat : Int) (b.toNat : Int) = ((a ^^^ b).toNat : Int) := by
  have ha := a.toNat_lt
  have hb := b.toNat_lt
  have hx : a.toNat ^^^ b.toNat < 2 ^ 8 := Nat.xor_lt_two_pow (by omega) (by omega)
  have e : (BitVec.ofNat 8 a.toNat ^^^ BitVec.ofNat 8 b.toNat).toNat = a.toNat ^^^ b.toNat := by rw [BitVec.toNat_xor, BitVec.toNat_ofNat, BitVec.toNat_ofNat, Nat.mod_eq_of_lt (by omega), Nat.mod_eq_of_lt (by omega)]
  show IntKind.u8.wrap (((BitVec.ofInt 8 (a.toNat : Int)) ^^^ (BitVec.ofInt 8 (b.toNat : Int))).toNat : Int) = _
  rw [BitVec.ofInt_natCast, BitVec.ofInt_natCast, e, IntKind.wrap_u8, UInt8.toNat_xor]
  omega

theorem spec_AddText_l0 (s : ByteArray) (hs : s.size ≤ 1073741824) : ∀ (rb rest pre done : List UInt8), s.data.toList = pre ++ rb → pre.length = done.length → rb.length ≤ rest.length →
    Ev (fun k => spec_AddText.l0 k s (ints (done ++ rest)) (done.length : Int)) (strOfNums (ints (done ++ addL rest rb))) := by
  intro rb
  induction rb with
  | nil =>
    intro rest pre done he hp hr
    have hsz := size_of_list s he
    simp only [List.append_nil] at hsz
    refine Ev.step (f := fun _ => some (strOfNums (ints (done ++ addL rest [])))) (fun k => ?_) (Ev.now _)
    simp only [spec_AddText.l0]
    rw [if_neg (by omega), addL_nil]
  | cons b rb ih =>
    intro rest pre done he hp hr
    have hsz := size_of_list s he
    simp only [List.length_append, List.length_cons] at hsz
    cases rest with
    | nil => simp at hr
    | cons r rest =>
      simp only [List.length_cons] at hr
      have h := ih rest (pre ++ [b]) (done ++ [r ^^^ b]) (by rw [he]; simp) (by simp; omega) (by omega)
      rw [List.length_append] at h
      refine Ev.step (fun k => ?_) (by rw [show done ++ addL (r :: rest) (b :: rb) = done ++ [r ^^^ b] ++ addL rest rb by simp [addL]]; exact h)
      simp only [spec_AddText.l0]
      have e := bt_mid s he
      rw [hp] at e
      have e2 : rd (ints (done ++ r :: rest)) (done.length : Int) = (r.toNat : Int) := by
        have := rd_mid (ints done) (r.toNat : Int) (ints rest)
        rw [ints_length] at this
        rw [ints_app]
        exact this
      rw [if_pos (by omega), if_pos (by omega), if_pos (by rw [ints_length, List.length_append, List.length_cons]; omega), wsucc (by omega), e, e2, bits_xor8]
      have h1 := set_mid (ints done) (r.toNat : Int) ((r ^^^ b).toNat : Int) (ints rest)
      rw [ints_length] at h1
      have e3 : (ints (done ++ r :: rest)).set done.length ((r ^^^ b).toNat : Int) = ints (done ++ [r ^^^ b] ++ rest) := by
        rw [ints_app]
        refine Eq.trans h1 ?_
        simp [ints]
      rw [show ((done.length : Int)).toNat = done.length from Int.toNat_natCast _, e3]
      rfl
theorem spec_AddText_j0 (a b : ByteArray) (ha : a.size ≤ 1073741824) (hb : b.size ≤ a.size) : Ev (fun k => spec_AddText.j0 k a b) (addT a b) := by
  have h := spec_AddText_l0 b (by omega) b.data.toList a.data.toList [] [] rfl rfl hb
  rw [str_ints] at h
  refine Ev.step (fun k => ?_) h
  simp only [spec_AddText.j0]
  rw [if_pos (by omega)]
  rfl
theorem spec_AddText_ev (a b : ByteArray) (ha : a.size ≤ 1073741824) (hb : b.size ≤ 1073741824) : Ev (fun k => spec_AddText.f k a b) (addT a b) := by
  unfold spec_AddText.f
  by_cases h : (a.size : Int) < (b.size : Int)
  · refine Ev.pos h ?_
    rw [show addT a b = addT b a by unfold addT; rw [addL_comm]]
    exact spec_AddText_j0 b a hb (by omega)
  · exact Ev.neg h (spec_AddText_j0 a b ha (by omega))

theorem impl_AddText_l0 (s : ByteArray) (hs : s.size ≤ 1073741824) : ∀ (rb rest pre done : List UInt8), s.data.toList = pre ++ rb → pre.length = done.length → rb.length ≤ rest.length →
    Ev (fun k => impl_AddText.l0 k s (ints (done ++ rest)) (done.length : Int)) (strOfNums (ints (done ++ addL rest rb))) := by
  intro rb
  induction rb with
  | nil =>
    intro rest pre done he hp hr
    have hsz := size_of_list s he
    simp only [List.append_nil] at hsz
    refine Ev.step (f := fun _ => some (strOfNums (ints (done ++ addL rest [])))) (fun k => ?_) (Ev.now _)
    simp only [impl_AddText.l0]
    rw [if_neg (by omega), addL_nil]
  | cons b rb ih =>
    intro rest pre done he hp hr
    have hsz := size_of_list s he
    simp only [List.length_append, List.length_cons] at hsz
    cases rest with
    | nil => simp at hr
    | cons r rest =>
      simp only [List.length_cons] at hr
      have h := ih rest (pre ++ [b]) (done ++ [r ^^^ b]) (by rw [he]; simp) (by simp; omega) (by omega)
      rw [List.length_append] at h
      refine Ev.step (fun k => ?_) (by rw [show done ++ addL (r :: rest) (b :: rb) = done ++ [r ^^^ b] ++ addL rest rb by simp [addL]]; exact h)
      simp only [impl_AddText.l0]
      have e := bt_mid s he
      rw [hp] at e
      have e2 : rd (ints (done ++ r :: rest)) (done.length : Int) = (r.toNat : Int) := by
        have := rd_mid (ints done) (r.toNat : Int) (ints rest)
        rw [ints_length] at this
        rw [ints_app]
        exact this
      rw [if_pos (by omega), if_pos (by omega), if_pos (by rw [ints_length, List.length_append, List.length_cons]; omega), wsucc (by omega), e, e2, bits_xor8]
      have h1 := set_mid (ints done) (r.toNat : Int) ((r ^^^ b).toNat : Int) (ints rest)
      rw [ints_length] at h1
      have e3 : (ints (done ++ r :: rest)).set done.length ((r ^^^ b).toNat : Int) = ints (done ++ [r ^^^ b] ++ rest) := by
        rw [ints_app]
        refine Eq.trans h1 ?_
        simp [ints]
      rw [show ((done.length : Int)).toNat = done.length from Int.toNat_natCast _, e3]
      rfl
theorem impl_AddText_ev (a b : ByteArray) (ha : a.size ≤ 1073741824) (hb : b.size ≤ 1073741824) : Ev (fun k => impl_AddText.f k a b) (addT a b) := by
  have hm : mx (a.size : Int) (b.size : Int) = ((max a.size b.size : Nat) : Int) := by
    unfold mx
    split <;> omega
  unfold impl_AddText.f
  rw [hm]
  refine Ev.pos (by omega) (Ev.pos (by omega) (Ev.some_bind rfl (Ev.pos (by rw [List.length_replicate]; omega) ?_)))
  have hc : copyS (List.replicate (max a.size b.size) 0) a = ints (a.data.toList ++ List.replicate (max a.size b.size - a.size) 0) := by
    unfold copyS
    rw [bytesOf_ints, ints_app, List.drop_replicate]
    simp [ints]
  have h := impl_AddText_l0 b hb b.data.toList (a.data.toList ++ List.replicate (max a.size b.size - a.size) 0) [] [] rfl rfl (by rw [List.length_append, List.length_replicate, str_len, str_len]; omega)
  rw [addL_zeros _ _ _ (by rw [str_len, str_len]; omega), str_ints] at h
  rw [Int.toNat_natCast, hc]
  exact h

/-! ### laws of sums and products of texts -/
theorem addT_list (a b : ByteArray) : (addT a b).data.toList = addL a.data.toList b.data.toList := rfl
theorem mulT_list (x : Nat) (a : ByteArray) : (mulT x a).data.toList = mulL x a.data.toList := rfl
theorem addT_size (a b : ByteArray) : (addT a b).size = max a.size b.size := by
  have h : (addT a b).data.toList.length = (addT a b).size := rfl
  rw [← h, addT_list, addL_length]
  rfl
theorem mulT_size (x : Nat) (a : ByteArray) : (mulT x a).size = a.size := by
  have h : (mulT x a).data.toList.length = (mulT x a).size := rfl
  rw [← h, mulT_list, mulL, List.length_map]
  rfl
theorem addT_comm (a b : ByteArray) : addT a b = addT b a := by unfold addT; rw [addL_comm]
theorem xor_twice (x y : UInt8) : x ^^^ y ^^^ y = x := by rw [UInt8.xor_assoc, UInt8.xor_self, UInt8.xor_zero]
theorem addL_self : ∀ ys : List UInt8, addL ys ys = List.replicate ys.length 0
  | [] => rfl
  | y :: ys => by simp only [addL, addL_self ys, UInt8.xor_self, List.length_cons, List.replicate_succ]
theorem addL_twice : ∀ xs ys : List UInt8, ∃ n, addL (addL xs ys) ys = xs ++ List.replicate n 0
  | [], ys => ⟨ys.length, by rw [nil_addL, addL_self]; rfl⟩
  | x :: xs, [] => ⟨0, by simp [addL_nil]⟩
  | x :: xs, y :: ys => by
    obtain ⟨n, h⟩ := addL_twice xs ys
    exact ⟨n, by simp only [addL, xor_twice, h, List.cons_append]⟩
theorem addT_begins (a b : ByteArray) : a.size ≤ (addT (addT a b) b).size ∧ (addT (addT a b) b).extract 0 a.size = a := by
  obtain ⟨n, h⟩ := addL_twice a.data.toList b.data.toList
  constructor
  · rw [addT_size, addT_size]
    omega
  · refine str_ext ?_
    rw [str_cut, addT_list, addT_list, h, Nat.sub_zero, List.drop_zero]
    rw [List.take_append_of_le_length (by rw [str_len]; exact Nat.le_refl _), List.take_of_length_le (by rw [str_len]; exact Nat.le_refl _)]
theorem mulB_xor {a : Nat} (ha : a < 256) (x y : UInt8) : mulB a (x ^^^ y) = mulB a x ^^^ mulB a y := by
  refine UInt8.toNat_inj.1 ?_
  have hx := x.toNat_lt
  have hy := y.toNat_lt
  rw [UInt8.toNat_xor, mulB_nat ha, mulB_nat ha, mulB_nat ha, UInt8.toNat_xor]
  exact Gf.mul_xor_right a _ _
theorem mulL_add {a : Nat} (ha : a < 256) : ∀ xs ys : List UInt8, mulL a (addL xs ys) = addL (mulL a xs) (mulL a ys)
  | [], ys => rfl
  | x :: xs, [] => rfl
  | x :: xs, y :: ys => by
    have ih := mulL_add ha xs ys
    simp only [mulL, addL, List.map_cons] at ih ⊢
    rw [ih, mulB_xor ha]
theorem mulT_add {x : Nat} (hx : x < 256) (a b : ByteArray) : mulT x (addT a b) = addT (mulT x a) (mulT x b) := by
  refine str_ext ?_
  rw [mulT_list, addT_list, addT_list, mulT_list, mulT_list, mulL_add hx]
theorem mulT_one (a : ByteArray) : mulT 1 a = a := by
  refine str_ext ?_
  rw [mulT_list, mulL]
  conv => rhs; rw [← List.map_id a.data.toList]
  refine List.map_congr_left (fun b _ => ?_)
  refine UInt8.toNat_inj.1 ?_
  have hb := b.toNat_lt
  rw [mulB_nat (by omega)]
  exact Gf.mul_one_left hb

/-! ### what is drawn -/
theorem and255_range (x : Int) : 0 ≤ Go.bits .and .i64 x 255 ∧ Go.bits .and .i64 x 255 ≤ 255 := by
  have e : ((BitVec.ofInt 64 x) &&& (BitVec.ofInt 64 255)).toNat = (x % 18446744073709551616).toNat % 256 := by
    rw [BitVec.toNat_and, BitVec.toNat_ofInt, show (BitVec.ofInt 64 255).toNat = 2 ^ 8 - 1 by decide, Nat.and_two_pow_sub_one_eq_mod]
    rfl
  have e2 : Go.bits .and .i64 x 255 = IntKind.i64.wrap (((BitVec.ofInt 64 x) &&& (BitVec.ofInt 64 255)).toNat : Int) := rfl
  rw [e2, e, IntKind.wrap_i64]
  omega
theorem byte_ex (l : List Int) (i h : Int) (hl : l.length ≤ 140737488351232) (hi : 0 ≤ i) : ∃ x i' h', spec_l01Byte.f l i h = some (x, i', h') ∧ 0 ≤ x ∧ x ≤ 255 ∧ 0 ≤ i' := by
  unfold spec_l01Byte.f
  by_cases c : i < (l.length : Int)
  · rw [if_pos c, if_pos hi]
    refine ⟨_, _, _, rfl, (and255_range _).1, (and255_range _).2, ?_⟩
    rw [w64 (by omega) (by omega)]
    omega
  · rw [if_neg c]
    exact ⟨_, _, _, rfl, (and255_range _).1, (and255_range _).2, hi⟩
theorem below_ex (l : List Int) (i h n : Int) (hl : l.length ≤ 140737488351232) (hi : 0 ≤ i) (hn : n ≤ 4294967296) : ∃ x i' h', spec_l01Below.f l i h n = some (x, i', h') ∧ 0 ≤ x ∧ (0 < n → x < n) ∧ (n ≤ 0 → x = 0) ∧ 0 ≤ i' := by
  unfold spec_l01Below.f
  by_cases c1 : n ≤ 0
  · rw [if_pos c1]
    exact ⟨_, _, _, rfl, by omega, by omega, fun _ => rfl, hi⟩
  · rw [if_neg c1]
    by_cases c2 : n ≤ 256
    · rw [if_pos c2]
      obtain ⟨x, i1, h1, e1, b0, b1, hi1⟩ := byte_ex l i h hl hi
      simp only [e1, Option.bind_some]
      rw [if_neg (by omega)]
      refine ⟨_, _, _, rfl, Int.tmod_nonneg _ b0, fun _ => ?_, by omega, hi1⟩
      exact Int.tmod_lt_of_pos _ (by omega)
    · rw [if_neg c2]
      obtain ⟨x, i1, h1, e1, x0, x1, hi1⟩ := byte_ex l i h hl hi
      obtain ⟨y, i2, h2, e2, y0, y1, hi2⟩ := byte_ex l i1 h1 hl hi1
      obtain ⟨z, i3, h3, e3, z0, z1, hi3⟩ := byte_ex l i2 h2 hl hi2
      obtain ⟨u, i4, h4, e4, u0, u1, hi4⟩ := byte_ex l i3 h3 hl hi3
      simp only [e1, e2, e3, e4, Option.bind_some]
      rw [if_neg (by omega)]
      refine ⟨_, _, _, rfl, Int.tmod_nonneg _ ?_, fun _ => Int.tmod_lt_of_pos _ (by omega), by omega, hi4⟩
      rw [w64 (x := x * 16777216) (by omega) (by omega), w64 (x := y * 65536) (by omega) (by omega), w64 (x := z * 256) (by omega) (by omega), w64 (x := x * 16777216 + y * 65536) (by omega) (by omega), w64 (x := x * 16777216 + y * 65536 + z * 256) (by omega) (by omega), w64 (by omega) (by omega)]
      omega
theorem new_ev (l : List Int) (hl : l.length ≤ 140737488351232) : ∃ h, Ev (fun k => spec_l01New.f k l) (l, 0, h) := by
  have key : ∀ d (i : Nat) (h : Int), l.length - i = d → ∃ h', Ev (fun k => spec_l01New.l0 k l h (i : Int)) (l, 0, h') := by
    intro d
    induction d with
    | zero =>
      intro i h hd
      exact ⟨h, Ev.step (f := fun _ => some (l, 0, h)) (fun k => by simp only [spec_l01New.l0]; rw [if_neg (by omega)]) (Ev.now _)⟩
    | succ d ih =>
      intro i h hd
      by_cases c : (i : Int) < 4000
      · obtain ⟨h', hh⟩ := ih (i + 1) _ (by omega)
        refine ⟨h', Ev.step (fun k => ?_) hh⟩
        simp only [spec_l01New.l0]
        rw [if_pos (by omega), if_pos c, if_pos (by omega), wsucc (by omega)]
      · exact ⟨h, Ev.step (f := fun _ => some (l, 0, h)) (fun k => by simp only [spec_l01New.l0]; rw [if_pos (by omega), if_neg c]) (Ev.now _)⟩
  obtain ⟨h', hh⟩ := key l.length 0 (wrap64 (36801 + (l.length : Int))) (by omega)
  exact ⟨h', hh⟩

theorem text_ev (l : List Int) (i h n : Int) (hl : l.length ≤ 140737488351232) (hi : 0 ≤ i) (hn : n ≤ 5000) : ∃ t i' h', Ev (fun k => spec_l01Text.f k l i h n) (t, i', h') ∧ t.size = n.toNat ∧ 0 ≤ i' := by
  have key : ∀ d (j : Nat) (acc : List Int) (i h : Int), j ≤ n.toNat → n.toNat - j = d → acc.length = j → 0 ≤ i → ∃ t i' h', Ev (fun k => spec_l01Text.l0 k n acc (j : Int) l i h) (t, i', h') ∧ t.size = n.toNat ∧ 0 ≤ i' := by
    intro d
    induction d with
    | zero =>
      intro j acc i h hj hd ha hi
      refine ⟨strOfNums acc, i, h, Ev.step (f := fun _ => some (strOfNums acc, i, h)) (fun k => by simp only [spec_l01Text.l0]; rw [if_neg (by omega)]) (Ev.now _), ?_, hi⟩
      rw [strOfNums_size]
      omega
    | succ d ih =>
      intro j acc i h hj hd ha hi
      obtain ⟨y, i2, h2, e2, _, _, hi2⟩ := byte_ex l i h hl hi
      obtain ⟨t, i3, h3, hp, hp1, hp2⟩ := ih (j + 1) (acc ++ [y % 256]) i2 h2 (by omega) (by omega) (by simp; omega) hi2
      refine ⟨t, i3, h3, Ev.step (fun k => ?_) hp, hp1, hp2⟩
      simp only [spec_l01Text.l0]
      rw [if_pos (by omega), e2]
      simp only [Option.bind_some]
      rw [if_pos (by omega), wsucc (by omega)]
  obtain ⟨t, i', h', ht, hs, hi'⟩ := key n.toNat 0 [] i h (by omega) (by omega) rfl hi
  refine ⟨t, i', h', ?_, hs, hi'⟩
  unfold spec_l01Text.f
  simp only [if_neg (show ¬ n > 5000 by omega)]
  exact Ev.step (fun k => by simp only [spec_l01Text.j0]; rfl) ht

theorem places_ev (l : List Int) (hl : l.length ≤ 140737488351232) : ∃ p : List Int, Ev (fun k => spec_DrawPlaces.f k l) p ∧ p.length = 12 ∧ ∀ x ∈ p, 0 ≤ x ∧ x < 10000 := by
  obtain ⟨h0, hn⟩ := new_ev l hl
  obtain ⟨x, i1, h1, e1, x0, x1, hi1⟩ := byte_ex l 0 h0 hl (by omega)
  have key : ∀ d (j : Nat) (acc : List Int) (i h : Int), j ≤ 12 → 12 - j = d → acc.length = j → (∀ x ∈ acc, 0 ≤ x ∧ x < 10000) → 0 ≤ i → ∃ p : List Int, Ev (fun k => spec_DrawPlaces.l0 k acc (j : Int) l i h) p ∧ p.length = 12 ∧ ∀ x ∈ p, 0 ≤ x ∧ x < 10000 := by
    intro d
    induction d with
    | zero =>
      intro j acc i h hj hd ha hb hi
      exact ⟨acc, Ev.step (f := fun _ => some acc) (fun k => by simp only [spec_DrawPlaces.l0]; rw [if_neg (by omega)]) (Ev.now _), by omega, hb⟩
    | succ d ih =>
      intro j acc i h hj hd ha hb hi
      obtain ⟨y, i2, h2, e2, y0, y1, _, hi2⟩ := below_ex l i h 10000 hl hi (by omega)
      obtain ⟨p, hp, hp1, hp2⟩ := ih (j + 1) (acc ++ [y]) i2 h2 (by omega) (by omega) (by simp; omega) (by
        intro z hz
        rcases List.mem_append.1 hz with hz | hz
        · exact hb z hz
        · rw [List.mem_singleton.1 hz]; exact ⟨y0, y1 (by omega)⟩) hi2
      refine ⟨p, Ev.step (fun k => ?_) hp, hp1, hp2⟩
      simp only [spec_DrawPlaces.l0]
      rw [if_pos (by omega), e2]
      simp only [Option.bind_some]
      rw [if_pos (by omega), wsucc (by omega)]
  obtain ⟨p, hp, hp1, hp2⟩ := key 12 0 [] i1 h1 (by omega) (by omega) rfl (by simp) hi1
  refine ⟨p, ?_, hp1, hp2⟩
  unfold spec_DrawPlaces.f
  refine Ev.bind hn ?_
  simp only [e1, Option.bind_some]
  exact hp
theorem rd_mem {p : List Int} {n : Nat} (h : n < p.length) : rd p (n : Int) ∈ p := by
  unfold rd
  rw [Int.toNat_natCast, List.getD_eq_getElem?_getD, List.getElem?_eq_getElem h]
  exact List.getElem_mem h

theorem drawAddText_ev (l : List Int) (hl : l.length ≤ 140737488351232) : ∃ a b : ByteArray, Ev (fun k => spec_DrawAddText.f k l) (a, b) ∧ a.size ≤ 9 ∧ b.size ≤ 9 := by
  obtain ⟨h, hn⟩ := new_ev l hl
  obtain ⟨x1, i1, h1, e1, b1, b2, _, b3⟩ := below_ex l 0 h 9 hl (by omega) (by omega)
  obtain ⟨t1, i2, h2, e2, z1, b4⟩ := text_ev l i1 h1 x1 hl b3 (by have := b2 (by omega); omega)
  obtain ⟨x2, i3, h3, e3, b5, b6, _, b7⟩ := below_ex l i2 h2 9 hl b4 (by omega)
  obtain ⟨t2, i4, h4, e4, z2, _⟩ := text_ev l i3 h3 x2 hl b7 (by have := b6 (by omega); omega)
  refine ⟨t1, t2, ?_, by have := b2 (by omega); omega, by have := b6 (by omega); omega⟩
  unfold spec_DrawAddText.f
  refine Ev.bind hn (Ev.some_bind e1 (Ev.bind e2 (Ev.some_bind e3 (Ev.bind e4 (Ev.now _)))))
theorem texts_last {a b : ByteArray} {x : Nat} (hx : x < 256) (ha : a.size ≤ 9) (hb : b.size ≤ 9) : Ev (fun k => laws_FnTexts.j0 k a b (x : Int) (addT a b) false) true := by
  have hs := addT_size a b
  have hz : (addT a b).size ≤ 9 := by omega
  have m (y : Nat) (hy : y < 256) (t : ByteArray) (ht : t.size ≤ 9) : Ev (fun k => impl_MulText.f k (y : Int) t) (mulT y t) := by
    have h := impl_MulText_ev (a := (y : Int)) (by omega) (by omega) t (by omega)
    rwa [modb_nat hy] at h
  have ma := mulT_size x a
  have mb := mulT_size x b
  refine Ev.step (f := fun k => (impl_MulText.f k (x : Int) (addT a b)).bind fun t199 => ((impl_MulText.f k (x : Int) a).bind fun t200 => ((impl_MulText.f k (x : Int) b).bind fun t201 => ((impl_AddText.f k t200 t201).bind fun t202 => (if t199.toList = t202.toList then ((impl_MulText.f k 1 a).bind fun t203 => (if t203.toList = a.toList then ((impl_MulText.f k 0 a).bind fun t204 => (if (t204.size : Int) = (a.size : Int) then ((impl_MulText.f k (x : Int) a).bind fun t205 => ((spec_MulText.f k (x : Int) a).bind fun t206 => (some (t205.toList == t206.toList)))) else (some false))) else (some false))) else (some false)))))) (fun k => ?_) ?_
  · simp only [laws_FnTexts.j0]
    rfl
  · refine Ev.bind (m x hx _ hz) (Ev.bind (m x hx a ha) (Ev.bind (m x hx b hb) (Ev.bind (impl_AddText_ev _ _ (by omega) (by omega)) ?_)))
    refine Ev.pos (by rw [mulT_add hx]) (Ev.bind (m 1 (by omega) a ha) (Ev.pos (by rw [mulT_one]) (Ev.bind (m 0 (by omega) a ha) (Ev.pos (by rw [mulT_size]) (Ev.bind (m x hx a ha) ?_)))))
    have h := spec_MulText_ev (a := (x : Int)) (by omega) (by omega) a (by omega)
    rw [modb_nat hx] at h
    refine Ev.bind h ?_
    simp only [beq_self_eq_true]
    exact Ev.now _
theorem FnTexts : laws_FnTexts.Pure := by
  intro l _ hl _
  have hl' : l.length ≤ 140737488351232 := by omega
  refine Ev.rounds ?_
  unfold laws_FnTexts.f
  refine Ev.some_bind (x := decide ((l.length : Int) > 1048576)) rfl ?_
  by_cases hb : (l.length : Int) > 1048576
  · exact Ev.pos (by simpa using hb) (Ev.now _)
  · refine Ev.neg (by simpa using hb) ?_
    obtain ⟨a, b, hd, ha, hbz⟩ := drawAddText_ev l hl'
    obtain ⟨p, hp, hpl, hpr⟩ := places_ev l hl'
    have hp0 := hpr _ (rd_mem (p := p) (n := 0) (by omega))
    obtain ⟨x, hx, hx2⟩ := tmod_nat (x := rd p 0) hp0.1 255
    have hx : Int.tmod (rd p 0) 256 = (x : Int) := hx
    have hs := addT_size a b
    have hs2 := addT_size (addT a b) b
    refine Ev.bind hd (Ev.bind hp (Ev.pos (by omega) ?_))
    have hx' : x < 256 := by omega
    rw [hx]
    refine Ev.bind (impl_AddText_ev a b (by omega) (by omega)) (Ev.bind (impl_AddText_ev (addT a b) b (by omega) (by omega)) ?_)
    refine Ev.neg (by show ¬ ((addT a b).size : Int) < (a.size : Int); omega) (Ev.neg (by show ¬ ((addT a b).size : Int) < (b.size : Int); omega) (Ev.neg ?_ ?_))
    · show ¬ ((addT a b).size : Int) > wrap64 ((a.size : Int) + (b.size : Int))
      rw [wadd (by omega)]
      omega
    · obtain ⟨g1, g2⟩ := addT_begins a b
      refine Ev.some_bind (x := true) ?_ (Ev.pos rfl (Ev.bind (impl_AddText_ev b a (by omega) (by omega)) (Ev.pos ?_ (Ev.bind (spec_AddText_ev a b (by omega) (by omega)) ?_))))
      · show laws_begins.f a (addT (addT a b) b) = _
        unfold laws_begins.f
        rw [if_pos (by omega), if_pos (by omega), Int.toNat_natCast, g2]
        simp
      · show (addT a b).toList = (addT b a).toList
        rw [addT_comm]
      · simp only [bne_self_eq_false]
        exact texts_last hx' ha hbz


end Go.Proofs.Ytkjjpjmblgmfdaa.Pure
