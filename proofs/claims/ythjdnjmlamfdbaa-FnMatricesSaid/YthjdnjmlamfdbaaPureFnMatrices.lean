/- Products of drawn matrices do not care how they are taken together; with OneM they stay. -/
import Derived.Test.YthjdnjmlamfdbaaXFnMatricesx7
set_option linter.unusedVariables false
set_option linter.unusedSimpArgs false
namespace Go.Proofs.Ythjdnjmlamfdbaa.Pure
open Go.RowKit Go.Proofs.Ythjdnjmlamfdbaa.XFnMatrices Go.Proofs.YthjdnjmlamfdbaaW.PrintWords Go.Proofs.YthjdnjmlamfdbaaW.PrintLast

/-! ### small words -/
theorem w64 {x : Int} (h0 : -9223372036854775808 ≤ x) (h1 : x ≤ 9223372036854775807) : wrap64 x = x := by
  unfold wrap64
  omega
theorem wf64 {x : Int} (h : (Lit.int .i64 x).wf = true) : -9223372036854775808 ≤ x ∧ x ≤ 9223372036854775807 := by
  simp [Lit.wf, IntKind.min, IntKind.max, IntKind.signed, IntKind.bits] at h
  omega
theorem wfu32 {x : Int} (h : (Lit.int .u32 x).wf = true) : 0 ≤ x ∧ x ≤ 4294967295 := by
  simp [Lit.wf, IntKind.min, IntKind.max, IntKind.signed, IntKind.bits] at h
  omega
theorem wfu8 {x : Int} (h : (Lit.int .u8 x).wf = true) : 0 ≤ x ∧ x ≤ 255 := by
  simp [Lit.wf, IntKind.min, IntKind.max, IntKind.signed, IntKind.bits] at h
  omega
theorem wsucc {n : Nat} (h : n ≤ 4611686018427387904) : wrap64 ((n : Int) + 1) = ((n + 1 : Nat) : Int) := by
  rw [w64 (by omega) (by omega)]
  rfl
theorem wadd {a b : Nat} (h : a + b ≤ 4611686018427387904) : wrap64 ((a : Int) + (b : Int)) = ((a + b : Nat) : Int) := by
  rw [w64 (by omega) (by omega)]
  rfl
theorem wnat {n : Nat} (h : n ≤ 4611686018427387904) : wrap64 (n : Int) = (n : Int) := w64 (by omega) (by omega)
theorem Ev.some_bind {α β : Type} {a : Option α} {x : α} (h : a = some x) {f : Nat → α → Option β} {r : β} (k : Ev (fun n => f n x) r) : Ev (fun n => a.bind (f n)) r := by
  subst h
  exact k
theorem Ev.pos {α : Type} {p : Prop} [Decidable p] (h : p) {f g : Nat → Option α} {r : α} (k : Ev f r) : Ev (fun n => if p then f n else g n) r :=
  Ev.congr (fun _ => if_pos h) k
theorem Ev.neg {α : Type} {p : Prop} [Decidable p] (h : ¬ p) {f g : Nat → Option α} {r : α} (k : Ev g r) : Ev (fun n => if p then f n else g n) r :=
  Ev.congr (fun _ => if_neg h) k
theorem tmod_nat {x : Int} (h0 : 0 ≤ x) (N : Nat) : ∃ c : Nat, Int.tmod x ((N + 1 : Nat) : Int) = (c : Int) ∧ c ≤ N := by
  obtain ⟨c, hc⟩ := Int.eq_ofNat_of_zero_le (Int.tmod_nonneg ((N + 1 : Nat) : Int) h0)
  have hlt := Int.tmod_lt_of_pos x (show (0 : Int) < ((N + 1 : Nat) : Int) by omega)
  rw [hc] at hlt
  exact ⟨c, hc, by omega⟩

theorem spec_l01In_eq (a l h : Int) : spec_l01In.f a l h = some (decide (l ≤ a ∧ a ≤ h)) := by
  unfold spec_l01In.f
  by_cases h1 : l ≤ a
  · rw [if_pos h1]; simp [h1]
  · rw [if_neg h1]; simp [h1]

theorem impl_within_eq (a l h : Int) : impl_within.f a l h = some (decide (l ≤ a ∧ a ≤ h)) := by
  unfold impl_within.f
  by_cases h1 : l ≤ a
  · rw [if_pos h1]; simp [h1]
  · rw [if_neg h1]; simp [h1]

/- Plain law: the field of bytes (polynomials over bits modulo 285), over natural numbers. -/
namespace Gf

/-- One step: times x. -/
def xt (a : Nat) : Nat := if 255 < 2 * a then (2 * a) ^^^ 285 else 2 * a

/-- The product, bit by bit of b. -/
def gm : Nat → Nat → Nat → Nat
  | 0, _, _ => 0
  | n + 1, a, b => (if b % 2 = 1 then a else 0) ^^^ gm n (xt a) (b / 2)

def mul (a b : Nat) : Nat := gm 8 a b

theorem xor_mod2 (a b : Nat) : (a ^^^ b) % 2 = (a % 2 + b % 2) % 2 := by
  have h := Nat.testBit_xor (x := a) (y := b) (i := 0)
  simp only [Nat.testBit_zero] at h
  have hX : (a ^^^ b) % 2 < 2 := Nat.mod_lt _ (by omega)
  have h1 : a % 2 = 0 ∨ a % 2 = 1 := by omega
  have h2 : b % 2 = 0 ∨ b % 2 = 1 := by omega
  generalize (a ^^^ b) % 2 = X at h hX ⊢
  rcases h1 with h1 | h1 <;> rcases h2 with h2 | h2 <;> rw [h1, h2] at h ⊢ <;> simp at h <;> omega

theorem xor_div2 (a b : Nat) : (a ^^^ b) / 2 = (a / 2) ^^^ (b / 2) := Nat.xor_div_two

theorem xor_lt {a b n : Nat} (ha : a < 2 ^ n) (hb : b < 2 ^ n) : a ^^^ b < 2 ^ n := Nat.xor_lt_two_pow ha hb

theorem xt_lt {a : Nat} (h : a < 256) : xt a < 256 := by
  have : ∀ a : Fin 256, xt a.val < 256 := by decide +kernel
  exact this ⟨a, h⟩

theorem two_mul_xor (a b : Nat) : 2 * (a ^^^ b) = (2 * a) ^^^ (2 * b) := by
  have h := Nat.shiftLeft_xor_distrib (a := a) (b := b) (i := 1)
  simp only [Nat.shiftLeft_eq, Nat.pow_one] at h
  rw [Nat.mul_comm 2, Nat.mul_comm 2, Nat.mul_comm 2]
  exact h

theorem top_xor {a b : Nat} (ha : a < 256) (hb : b < 256) : (a ^^^ b) / 128 = (a / 128 + b / 128) % 2 := by
  have h : ((a ^^^ b) >>> 7) = (a >>> 7) ^^^ (b >>> 7) := Nat.shiftRight_xor_distrib
  simp only [Nat.shiftRight_eq_div_pow] at h
  have h1 : a / 2 ^ 7 < 2 := by omega
  have h2 : b / 2 ^ 7 < 2 := by omega
  have h3 := xor_mod2 (a / 2 ^ 7) (b / 2 ^ 7)
  have h4 : (a / 2 ^ 7) ^^^ (b / 2 ^ 7) < 2 ^ 1 := xor_lt (by omega) (by omega)
  omega

theorem xt_eq {a : Nat} (h : a < 256) : xt a = (2 * a) ^^^ (if a / 128 = 1 then 285 else 0) := by
  unfold xt
  by_cases h1 : 255 < 2 * a
  · rw [if_pos h1, if_pos (by omega)]
  · rw [if_neg h1, if_neg (by omega), Nat.xor_zero]

theorem xt_xor {a b : Nat} (ha : a < 256) (hb : b < 256) : xt (a ^^^ b) = xt a ^^^ xt b := by
  have hab : a ^^^ b < 256 := xor_lt (n := 8) ha hb
  rw [xt_eq ha, xt_eq hb, xt_eq hab, two_mul_xor, top_xor ha hb]
  have h1 : a / 128 = 0 ∨ a / 128 = 1 := by omega
  have h2 : b / 128 = 0 ∨ b / 128 = 1 := by omega
  rcases h1 with h1 | h1 <;> rcases h2 with h2 | h2 <;> rw [h1, h2] <;> simp
  · ac_rfl
  · ac_rfl
  · rw [show (2 * a ^^^ 285) ^^^ (2 * b ^^^ 285) = (285 ^^^ 285) ^^^ (2 * a ^^^ 2 * b) by ac_rfl, Nat.xor_self, Nat.zero_xor]

theorem gm_lt (n : Nat) : ∀ {a : Nat} (b : Nat), a < 256 → gm n a b < 256 := by
  induction n with
  | zero => intro a b _; simp [gm]
  | succ n ih =>
    intro a b h
    unfold gm
    refine xor_lt (n := 8) ?_ (ih _ (xt_lt h))
    split <;> omega

theorem gm_xor_left (n : Nat) : ∀ {a c : Nat} (b : Nat), a < 256 → c < 256 → gm n (a ^^^ c) b = gm n a b ^^^ gm n c b := by
  induction n with
  | zero => intro a c b _ _; simp [gm]
  | succ n ih =>
    intro a c b ha hc
    simp only [gm]
    rw [xt_xor ha hc, ih _ (xt_lt ha) (xt_lt hc)]
    by_cases h : b % 2 = 1
    · simp only [if_pos h]; ac_rfl
    · simp only [if_neg h, Nat.zero_xor]

theorem gm_xor_right (n : Nat) : ∀ (a b c : Nat), gm n a (b ^^^ c) = gm n a b ^^^ gm n a c := by
  induction n with
  | zero => intro a b c; simp [gm]
  | succ n ih =>
    intro a b c
    simp only [gm]
    rw [xor_div2, ih, xor_mod2]
    have h1 : b % 2 = 0 ∨ b % 2 = 1 := by omega
    have h2 : c % 2 = 0 ∨ c % 2 = 1 := by omega
    rcases h1 with h1 | h1 <;> rcases h2 with h2 | h2 <;> rw [h1, h2] <;> simp
    · rw [← Nat.xor_assoc, Nat.xor_comm a, Nat.xor_assoc]
    · rw [Nat.xor_assoc]
    · have : a ^^^ gm n (xt a) (b / 2) ^^^ (a ^^^ gm n (xt a) (c / 2)) = (a ^^^ a) ^^^ (gm n (xt a) (b / 2) ^^^ gm n (xt a) (c / 2)) := by ac_rfl
      rw [this, Nat.xor_self, Nat.zero_xor]

theorem mul_lt {a : Nat} (b : Nat) (h : a < 256) : mul a b < 256 := gm_lt 8 b h
theorem mul_xor_left {a c : Nat} (b : Nat) (ha : a < 256) (hc : c < 256) : mul (a ^^^ c) b = mul a b ^^^ mul c b := gm_xor_left 8 b ha hc
theorem mul_xor_right (a b c : Nat) : mul a (b ^^^ c) = mul a b ^^^ mul a c := gm_xor_right 8 a b c

/-- Two functions that go through sums are one, if they are at the powers of two. -/
theorem add_ext (f g : Nat → Nat) (h0 : f 0 = g 0) (hf : ∀ a b, a < 256 → b < 256 → f (a ^^^ b) = f a ^^^ f b) (hg : ∀ a b, a < 256 → b < 256 → g (a ^^^ b) = g a ^^^ g b)
    (h : ∀ i, i < 8 → f (2 ^ i) = g (2 ^ i)) : ∀ a, a < 256 → f a = g a := by
  have key : ∀ n, n ≤ 8 → ∀ a, a < 2 ^ n → f a = g a := by
    intro n
    induction n with
    | zero => intro _ a ha; have : a = 0 := by omega
              rw [this, h0]
    | succ n ih =>
      intro hn a ha
      by_cases hlt : a < 2 ^ n
      · exact ih (by omega) a hlt
      · have h256 : 2 ^ (n + 1) ≤ 2 ^ 8 := Nat.pow_le_pow_right (by omega) hn
        have hs : 2 ^ (n + 1) = 2 * 2 ^ n := by rw [Nat.pow_succ]; omega
        have hr : a - 2 ^ n < 2 ^ n := by omega
        have he : a = 2 ^ n ^^^ (a - 2 ^ n) := by
          have h1 : 2 ^ n + (a - 2 ^ n) = 2 ^ n ^^^ (a - 2 ^ n) := by
            have := Nat.two_pow_add_eq_or_of_lt (i := n) (b := a - 2 ^ n) hr 1
            have h2 : (2 ^ n ||| (a - 2 ^ n)) = 2 ^ n ^^^ (a - 2 ^ n) := by
              apply Nat.eq_of_testBit_eq
              intro j
              rw [Nat.testBit_or, Nat.testBit_xor, Nat.testBit_two_pow]
              by_cases hj : n = j
              · subst hj
                rw [Nat.testBit_lt_two_pow hr]
                simp
              · simp [hj]
            rw [← h2]
            simpa using this
          omega
        rw [he, hf _ _ (by omega) (by omega), hg _ _ (by omega) (by omega), h n (by omega), ih (by omega) _ hr]
  intro a ha
  exact key 8 (Nat.le_refl _) a (by simpa using ha)

theorem mul_zero_right (a : Nat) : mul a 0 = 0 := by
  have : ∀ n a, gm n a 0 = 0 := by
    intro n
    induction n with
    | zero => intro a; rfl
    | succ n ih => intro a; simp [gm, ih]
  exact this 8 a
theorem mul_zero_left (b : Nat) : mul 0 b = 0 := by
  have : ∀ n b, gm n 0 b = 0 := by
    intro n
    induction n with
    | zero => intro b; rfl
    | succ n ih => intro b; simp [gm, xt, ih]
  exact this 8 b

theorem pow2_lt {i : Nat} (h : i < 8) : 2 ^ i < 256 := by
  have : 2 ^ i < 2 ^ 8 := Nat.pow_lt_pow_right (by omega) h
  omega

theorem mul_comm {a b : Nat} (ha : a < 256) (hb : b < 256) : mul a b = mul b a := by
  have base : ∀ i : Fin 8, ∀ j : Fin 8, mul (2 ^ i.val) (2 ^ j.val) = mul (2 ^ j.val) (2 ^ i.val) := by decide +kernel
  have step : ∀ i, i < 8 → ∀ b, b < 256 → mul (2 ^ i) b = mul b (2 ^ i) := by
    intro i hi
    refine add_ext (fun b => mul (2 ^ i) b) (fun b => mul b (2 ^ i)) ?_ ?_ ?_ ?_
    · show mul _ _ = mul _ _
      rw [mul_zero_right, mul_zero_left]
    · intro a b _ _; exact mul_xor_right _ _ _
    · intro a b ha hb; exact mul_xor_left _ ha hb
    · intro j hj; exact base ⟨i, hi⟩ ⟨j, hj⟩
  refine add_ext (fun a => mul a b) (fun a => mul b a) ?_ ?_ ?_ ?_ a ha
  · show mul _ _ = mul _ _
    rw [mul_zero_right, mul_zero_left]
  · intro a c ha hc; exact mul_xor_left _ ha hc
  · intro a c _ _; exact mul_xor_right _ _ _
  · intro i hi; exact step i hi b hb

theorem mul_assoc {a b c : Nat} (ha : a < 256) (hb : b < 256) (hc : c < 256) : mul (mul a b) c = mul a (mul b c) := by
  have base : ∀ i j k : Fin 8, mul (mul (2 ^ i.val) (2 ^ j.val)) (2 ^ k.val) = mul (2 ^ i.val) (mul (2 ^ j.val) (2 ^ k.val)) := by decide +kernel
  have s1 : ∀ i, i < 8 → ∀ j, j < 8 → ∀ c, c < 256 → mul (mul (2 ^ i) (2 ^ j)) c = mul (2 ^ i) (mul (2 ^ j) c) := by
    intro i hi j hj
    refine add_ext (fun c => mul (mul (2 ^ i) (2 ^ j)) c) (fun c => mul (2 ^ i) (mul (2 ^ j) c)) ?_ ?_ ?_ ?_
    · show mul _ _ = mul _ _
      rw [mul_zero_right, mul_zero_right, mul_zero_right]
    · intro a b _ _; exact mul_xor_right _ _ _
    · intro a b _ _
      show mul _ (mul _ _) = mul _ (mul _ _) ^^^ mul _ (mul _ _)
      rw [mul_xor_right, mul_xor_right]
    · intro k hk; exact base ⟨i, hi⟩ ⟨j, hj⟩ ⟨k, hk⟩
  have s2 : ∀ i, i < 8 → ∀ b, b < 256 → mul (mul (2 ^ i) b) c = mul (2 ^ i) (mul b c) := by
    intro i hi
    refine add_ext (fun b => mul (mul (2 ^ i) b) c) (fun b => mul (2 ^ i) (mul b c)) ?_ ?_ ?_ ?_
    · show mul (mul _ _) _ = mul _ (mul _ _)
      rw [mul_zero_right, mul_zero_left, mul_zero_right]
    · intro a b ha hb
      show mul (mul _ _) _ = mul (mul _ _) _ ^^^ mul (mul _ _) _
      rw [mul_xor_right, mul_xor_left _ (mul_lt _ (pow2_lt hi)) (mul_lt _ (pow2_lt hi))]
    · intro a b ha hb
      show mul _ (mul _ _) = mul _ (mul _ _) ^^^ mul _ (mul _ _)
      rw [mul_xor_left _ ha hb, mul_xor_right]
    · intro j hj; exact s1 i hi j hj c hc
  refine add_ext (fun a => mul (mul a b) c) (fun a => mul a (mul b c)) ?_ ?_ ?_ ?_ a ha
  · show mul (mul _ _) _ = mul _ (mul _ _)
    rw [mul_zero_left, mul_zero_left, mul_zero_left]
  · intro x y hx hy
    show mul (mul _ _) _ = mul (mul _ _) _ ^^^ mul (mul _ _) _
    rw [mul_xor_left _ hx hy, mul_xor_left _ (mul_lt _ hx) (mul_lt _ hy)]
  · intro x y hx hy; exact mul_xor_left _ hx hy
  · intro i hi; exact s2 i hi b hb

theorem mul_one_right {a : Nat} : mul a 1 = a := by
  unfold mul
  simp only [gm]
  simp

theorem mul_one_left {a : Nat} (h : a < 256) : mul 1 a = a := by
  rw [mul_comm (by omega) h, mul_one_right]

def pow (a : Nat) : Nat → Nat
  | 0 => 1
  | n + 1 => mul (pow a n) a

theorem pow_lt {a : Nat} (h : a < 256) : ∀ n, pow a n < 256
  | 0 => by simp [pow]
  | n + 1 => mul_lt _ (pow_lt h n)

theorem pow_add {a : Nat} (h : a < 256) (n m : Nat) : pow a (n + m) = mul (pow a n) (pow a m) := by
  induction m with
  | zero => simp [pow, mul_one_right]
  | succ m ih =>
    show mul (pow a (n + m)) a = mul (pow a n) (mul (pow a m) a)
    rw [ih, mul_assoc (pow_lt h n) (pow_lt h m) h]

def sq (a : Nat) : Nat := mul a a
/-- a 254 times, by squares. -/
def inv254 (a : Nat) : Nat :=
  let a2 := sq a
  let a4 := sq a2
  let a8 := sq a4
  let a16 := sq a8
  let a32 := sq a16
  let a64 := sq a32
  let a128 := sq a64
  mul (mul (mul (mul (mul (mul a128 a64) a32) a16) a8) a4) a2

theorem pow_dbl {a : Nat} (h : a < 256) (n : Nat) : pow a (n + n) = sq (pow a n) := pow_add h n n

theorem pow_254 {a : Nat} (h : a < 256) : pow a 254 = inv254 a := by
  have p1 : pow a 1 = a := by show mul 1 a = a; exact mul_one_left h
  have p2 : pow a 2 = sq a := by rw [show (2 : Nat) = 1 + 1 from rfl, pow_dbl h, p1]
  have p4 : pow a 4 = sq (sq a) := by rw [show (4 : Nat) = 2 + 2 from rfl, pow_dbl h, p2]
  have p8 : pow a 8 = sq (sq (sq a)) := by rw [show (8 : Nat) = 4 + 4 from rfl, pow_dbl h, p4]
  have p16 : pow a 16 = sq (sq (sq (sq a))) := by rw [show (16 : Nat) = 8 + 8 from rfl, pow_dbl h, p8]
  have p32 : pow a 32 = sq (sq (sq (sq (sq a)))) := by rw [show (32 : Nat) = 16 + 16 from rfl, pow_dbl h, p16]
  have p64 : pow a 64 = sq (sq (sq (sq (sq (sq a))))) := by rw [show (64 : Nat) = 32 + 32 from rfl, pow_dbl h, p32]
  have p128 : pow a 128 = sq (sq (sq (sq (sq (sq (sq a)))))) := by rw [show (128 : Nat) = 64 + 64 from rfl, pow_dbl h, p64]
  rw [show (254 : Nat) = 128 + 64 + 32 + 16 + 8 + 4 + 2 from rfl, pow_add h, pow_add h, pow_add h, pow_add h, pow_add h, pow_add h, p128, p64, p32, p16, p8, p4, p2]
  rfl

theorem mul_inv {a : Nat} (h : a < 256) (h0 : a ≠ 0) : mul a (pow a 254) = 1 := by
  rw [pow_254 h]
  have key : ∀ a : Fin 256, a.val ≠ 0 → mul a.val (inv254 a.val) = 1 := by decide +kernel
  exact key ⟨a, h⟩ h0

/-- What is 1 with a is a 254 times. -/
theorem inv_unique {a b : Nat} (ha : a < 256) (hb : b < 256) (h : mul a b = 1) : b = pow a 254 := by
  have h0 : a ≠ 0 := by
    rintro rfl
    rw [mul_zero_left] at h
    omega
  have hp := pow_lt ha 254
  have h1 : mul (mul (pow a 254) a) b = b := by
    rw [mul_comm hp ha, mul_inv ha h0, mul_one_left hb]
  rw [mul_assoc hp ha hb, h, mul_one_right] at h1
  exact h1.symm

theorem pow_zero_base (n : Nat) : pow 0 (n + 1) = 0 := mul_zero_right _

end Gf

/-! ### products of bytes -/
def modb (a : Int) : Nat := (a % 256).toNat
theorem modb_lt (a : Int) : modb a < 256 := by unfold modb; omega
theorem modb_nat {a : Nat} (h : a < 256) : modb (a : Int) = a := by unfold modb; omega
theorem bits_xor64 {a b : Nat} (ha : a < 2 ^ 63) (hb : b < 2 ^ 63) : Go.bits .xor .i64 (a : Int) (b : Int) = ((a ^^^ b : Nat) : Int) := by
  have hx : a ^^^ b < 2 ^ 63 := Nat.xor_lt_two_pow ha hb
  have e : (BitVec.ofNat 64 a ^^^ BitVec.ofNat 64 b).toNat = a ^^^ b := by rw [BitVec.toNat_xor, BitVec.toNat_ofNat, BitVec.toNat_ofNat, Nat.mod_eq_of_lt (by omega), Nat.mod_eq_of_lt (by omega)]
  show IntKind.i64.wrap (((BitVec.ofInt 64 (a : Int)) ^^^ (BitVec.ofInt 64 (b : Int))).toNat : Int) = _
  rw [BitVec.ofInt_natCast, BitVec.ofInt_natCast, e, IntKind.wrap_i64]
  omega
theorem bits_and255 {a : Int} (h0 : -9223372036854775808 ≤ a) (h1 : a ≤ 9223372036854775807) : Go.bits .and .i64 a 255 = ((modb a : Nat) : Int) := by
  have e : ((BitVec.ofInt 64 a) &&& (BitVec.ofInt 64 255)).toNat = (a % 18446744073709551616).toNat % 256 := by
    rw [BitVec.toNat_and, BitVec.toNat_ofInt, show (BitVec.ofInt 64 255).toNat = 2 ^ 8 - 1 by decide, Nat.and_two_pow_sub_one_eq_mod]
    rfl
  show IntKind.i64.wrap (((BitVec.ofInt 64 a) &&& (BitVec.ofInt 64 255)).toNat : Int) = _
  rw [e, IntKind.wrap_i64]
  unfold modb
  omega
theorem bits_and1 {b : Nat} (h : b < 256) : Go.bits .and .i64 (b : Int) 1 = ((b % 2 : Nat) : Int) := by
  have e : ((BitVec.ofInt 64 (b : Int)) &&& (BitVec.ofInt 64 1)).toNat = b % 2 := by
    rw [BitVec.toNat_and, BitVec.ofInt_natCast, BitVec.toNat_ofNat, show (BitVec.ofInt 64 1).toNat = 2 ^ 1 - 1 by decide, Nat.and_two_pow_sub_one_eq_mod]
    show b % 2 ^ 64 % 2 ^ 1 = b % 2
    omega
  show IntKind.i64.wrap (((BitVec.ofInt 64 (b : Int)) &&& (BitVec.ofInt 64 1)).toNat : Int) = _
  rw [e, IntKind.wrap_i64]
  omega
def gmul (a b : Int) : Int := ((Gf.mul (modb a) (modb b) : Nat) : Int)
theorem gmul_range (a b : Int) : 0 ≤ gmul a b ∧ gmul a b ≤ 255 := by
  unfold gmul
  have := Gf.mul_lt (modb b) (modb_lt a)
  omega
theorem modb_gmul (a b : Int) : modb (gmul a b) = Gf.mul (modb a) (modb b) := modb_nat (Gf.mul_lt _ (modb_lt a))

theorem spec_l05Mod_eq {a : Int} (h0 : -9223372036854775808 ≤ a) (h1 : a ≤ 9223372036854775807) : spec_l05Mod.f a = some ((modb a : Nat) : Int) := by
  have e : Int.tmod a 256 = if a < 0 ∧ a % 256 ≠ 0 then a % 256 - 256 else a % 256 := by
    rcases Int.lt_or_le a 0 with h | h
    · obtain ⟨n, rfl⟩ : ∃ n : Nat, a = -(n : Int) := ⟨(-a).toNat, by omega⟩
      rw [Int.neg_tmod, Int.tmod_eq_emod_of_nonneg (by omega)]
      split <;> omega
    · rw [Int.tmod_eq_emod_of_nonneg h, if_neg (by omega)]
  unfold spec_l05Mod.f modb
  rw [e]
  by_cases c : a < 0 ∧ a % 256 ≠ 0
  · rw [if_pos c, if_pos (by omega), w64 (by omega) (by omega)]
    congr 1
    omega
  · rw [if_neg c, if_neg (by omega)]
    congr 1
    omega
theorem spec_MulG_l0 (n : Nat) : ∀ (a b out : Nat), a < 256 → b < 2 ^ n → n ≤ 8 → out < 256 → Ev (fun k => spec_MulG.l0 k (a : Int) (b : Int) (out : Int)) ((out ^^^ Gf.gm n a b : Nat) : Int) := by
  induction n with
  | zero =>
    intro a b out ha hb hn ho
    have hb0 : b = 0 := by omega
    subst hb0
    exact Ev.step (f := fun _ => some (out : Int)) (fun k => by simp only [spec_MulG.l0]; rw [if_neg (by omega)]) (by simpa [Gf.gm] using Ev.now _)
  | succ n ih =>
    intro a b out ha hb hn ho
    by_cases hb0 : b = 0
    · subst hb0
      have hz : Gf.gm (n + 1) a 0 = 0 := by
        have : ∀ n a, Gf.gm n a 0 = 0 := by
          intro n
          induction n with
          | zero => intro a; rfl
          | succ n ih => intro a; simp [Gf.gm, ih]
        exact this _ _
      rw [hz, Nat.xor_zero]
      exact Ev.step (f := fun _ => some (out : Int)) (fun k => by simp only [spec_MulG.l0]; rw [if_neg (by omega)]) (Ev.now _)
    · have h8 : 2 ^ n ≤ 2 ^ 8 := Nat.pow_le_pow_right (by omega) (by omega)
      have h9 : 2 ^ (n + 1) = 2 * 2 ^ n := by rw [Nat.pow_succ]; omega
      have h10 : 2 ^ (n + 1) ≤ 2 ^ 8 := Nat.pow_le_pow_right (by omega) hn
      have hm : Int.tmod (b : Int) 2 = ((b % 2 : Nat) : Int) := by rw [Int.tmod_eq_emod_of_nonneg (by omega)]; rfl
      have hd : wrap64 (Int.tdiv (b : Int) 2) = ((b / 2 : Nat) : Int) := by rw [Int.tdiv_eq_ediv_of_nonneg (by omega), w64 (by omega) (by omega)]; rfl
      have h2 : wrap64 (2 * (a : Int)) = ((2 * a : Nat) : Int) := by rw [w64 (by omega) (by omega)]; rfl
      have hx : ∀ m : Nat, m < 256 → (out ^^^ (if b % 2 = 1 then a else 0) ^^^ Gf.gm n (Gf.xt a) (b / 2)) = (out ^^^ Gf.gm (n + 1) a b) := by
        intro m _
        rw [Gf.gm, Nat.xor_assoc]
      have hxa : Go.bits .xor .i64 (out : Int) (a : Int) = ((out ^^^ a : Nat) : Int) := bits_xor64 (by omega) (by omega)
      have hx5 : Go.bits .xor .i64 ((2 * a : Nat) : Int) 285 = ((2 * a ^^^ 285 : Nat) : Int) := bits_xor64 (b := 285) (by omega) (by omega)
      rw [← hx 0 (by omega)]
      have hlt : out ^^^ (if b % 2 = 1 then a else 0) < 256 := Gf.xor_lt (n := 8) ho (by split <;> omega)
      refine Ev.step (f := fun k => spec_MulG.l0 k ((Gf.xt a : Nat) : Int) ((b / 2 : Nat) : Int) ((out ^^^ (if b % 2 = 1 then a else 0) : Nat) : Int)) (fun k => ?_) (ih _ _ _ (Gf.xt_lt ha) (by omega) (by omega) hlt)
      simp only [spec_MulG.l0, hm, hd, h2, hxa, hx5]
      rw [if_pos (by omega)]
      unfold Gf.xt
      by_cases c1 : b % 2 = 1 <;> by_cases c2 : 255 < 2 * a
      · rw [if_pos (by omega), if_pos (by omega), if_pos c1, if_pos c2]
      · rw [if_pos (by omega), if_neg (by omega), if_pos c1, if_neg c2]
      · rw [if_neg (by omega), if_pos (by omega), if_neg c1, if_pos c2, Nat.xor_zero]
      · rw [if_neg (by omega), if_neg (by omega), if_neg c1, if_neg c2, Nat.xor_zero]
theorem spec_MulG_ev {a b : Int} (a0 : -9223372036854775808 ≤ a) (a1 : a ≤ 9223372036854775807) (b0 : -9223372036854775808 ≤ b) (b1 : b ≤ 9223372036854775807) : Ev (fun k => spec_MulG.f k a b) (gmul a b) := by
  have h := spec_MulG_l0 8 (modb a) (modb b) 0 (modb_lt a) (modb_lt b) (Nat.le_refl _) (by omega)
  rw [Nat.zero_xor] at h
  refine Ev.congr (fun k => ?_) h
  unfold spec_MulG.f
  rw [spec_l05Mod_eq a0 a1, spec_l05Mod_eq b0 b1]
  rfl

theorem impl_MulG_l0 (n : Nat) : ∀ (a b out : Nat), a < 256 → b < 2 ^ n → n ≤ 8 → out < 256 → Ev (fun k => impl_MulG.l0 k (a : Int) (b : Int) (out : Int)) ((out ^^^ Gf.gm n a b : Nat) : Int) := by
  induction n with
  | zero =>
    intro a b out ha hb hn ho
    have hb0 : b = 0 := by omega
    subst hb0
    exact Ev.step (f := fun _ => some (out : Int)) (fun k => by simp only [impl_MulG.l0]; rw [if_neg (by omega)]) (by simpa [Gf.gm] using Ev.now _)
  | succ n ih =>
    intro a b out ha hb hn ho
    by_cases hb0 : b = 0
    · subst hb0
      have hz : Gf.gm (n + 1) a 0 = 0 := by
        have : ∀ n a, Gf.gm n a 0 = 0 := by
          intro n
          induction n with
          | zero => intro a; rfl
          | succ n ih => intro a; simp [Gf.gm, ih]
        exact this _ _
      rw [hz, Nat.xor_zero]
      exact Ev.step (f := fun _ => some (out : Int)) (fun k => by simp only [impl_MulG.l0]; rw [if_neg (by omega)]) (Ev.now _)
    · have h8 : 2 ^ n ≤ 2 ^ 8 := Nat.pow_le_pow_right (by omega) (by omega)
      have h9 : 2 ^ (n + 1) = 2 * 2 ^ n := by rw [Nat.pow_succ]; omega
      have h10 : 2 ^ (n + 1) ≤ 2 ^ 8 := Nat.pow_le_pow_right (by omega) hn
      have hm : Go.bits .and .i64 (b : Int) 1 = ((b % 2 : Nat) : Int) := bits_and1 (by omega)
      have hd : (b : Int) / 2 = ((b / 2 : Nat) : Int) := rfl
      have h2 : wrap64 ((a : Int) * 2) = ((2 * a : Nat) : Int) := by rw [w64 (by omega) (by omega)]; omega
      have hx : (out ^^^ (if b % 2 = 1 then a else 0) ^^^ Gf.gm n (Gf.xt a) (b / 2)) = (out ^^^ Gf.gm (n + 1) a b) := by
        rw [Gf.gm, Nat.xor_assoc]
      have hxa : Go.bits .xor .i64 (out : Int) (a : Int) = ((out ^^^ a : Nat) : Int) := bits_xor64 (by omega) (by omega)
      have hx5 : Go.bits .xor .i64 ((2 * a : Nat) : Int) 285 = ((2 * a ^^^ 285 : Nat) : Int) := bits_xor64 (b := 285) (by omega) (by omega)
      rw [← hx]
      have hlt : out ^^^ (if b % 2 = 1 then a else 0) < 256 := Gf.xor_lt (n := 8) ho (by split <;> omega)
      refine Ev.step (f := fun k => impl_MulG.l0 k ((Gf.xt a : Nat) : Int) ((b / 2 : Nat) : Int) ((out ^^^ (if b % 2 = 1 then a else 0) : Nat) : Int)) (fun k => ?_) (ih _ _ _ (Gf.xt_lt ha) (by omega) (by omega) hlt)
      simp only [impl_MulG.l0, hm, hd, h2, hxa, hx5]
      rw [if_pos (by omega)]
      unfold Gf.xt
      by_cases c1 : b % 2 = 1 <;> by_cases c2 : 255 < 2 * a
      · rw [if_pos (by omega), if_pos (by omega), if_pos c1, if_pos c2]
      · rw [if_pos (by omega), if_neg (by omega), if_pos c1, if_neg c2]
      · rw [if_neg (by omega), if_pos (by omega), if_neg c1, if_pos c2, Nat.xor_zero]
      · rw [if_neg (by omega), if_neg (by omega), if_neg c1, if_neg c2, Nat.xor_zero]
theorem impl_MulG_ev {a b : Int} (a0 : -9223372036854775808 ≤ a) (a1 : a ≤ 9223372036854775807) (b0 : -9223372036854775808 ≤ b) (b1 : b ≤ 9223372036854775807) : Ev (fun k => impl_MulG.f k a b) (gmul a b) := by
  have h := impl_MulG_l0 8 (modb a) (modb b) 0 (modb_lt a) (modb_lt b) (Nat.le_refl _) (by omega)
  rw [Nat.zero_xor] at h
  refine Ev.congr (fun k => ?_) h
  unfold impl_MulG.f
  rw [bits_and255 a0 a1, bits_and255 b0 b1]
  rfl

/-! ### lists of lists of whole numbers: read -/
theorem rdI_nat {l : List Int} {i : Nat} (h : i < l.length) : rd l (i : Int) = l[i] := by
  unfold rd
  rw [Int.toNat_natCast, List.getD_eq_getElem?_getD, List.getElem?_eq_getElem h]
  rfl
theorem rdL_nat {l : List (List Int)} {i : Nat} (h : i < l.length) : rd_L1 l (i : Int) = l[i] := by
  unfold rd_L1
  rw [Int.toNat_natCast, List.getD_eq_getElem?_getD, List.getElem?_eq_getElem h]
  rfl
theorem rdI_mid (A : List Int) (x : Int) (B : List Int) : rd (A ++ x :: B) (A.length : Int) = x := by simp [rd]
theorem rdL_mid (A : List (List Int)) (x : List Int) (B : List (List Int)) : rd_L1 (A ++ x :: B) (A.length : Int) = x := by simp [rd_L1]
theorem set_midI {α : Type} (A : List α) (x v : α) (B : List α) : (A ++ x :: B).set A.length v = A ++ v :: B := by simp

/-! ### what a right matrix is -/
def inB (x : Int) : Bool := decide (0 ≤ x ∧ x ≤ 255)
def okR (n : Nat) (r : List Int) : Bool := decide (r.length = n) && r.all inB
def in18 (n : Nat) : Bool := decide (1 ≤ n ∧ n ≤ 8)
def okM (m : List (List Int)) : Bool := in18 m.length && in18 (m.headD []).length && m.all (okR (m.headD []).length)
theorem in18_int (n : Nat) : decide ((1 : Int) ≤ (n : Int) ∧ (n : Int) ≤ 8) = in18 n := by
  unfold in18
  by_cases h : 1 ≤ n ∧ n ≤ 8
  · rw [decide_eq_true h, decide_eq_true (by omega)]
  · rw [decide_eq_false h, decide_eq_false (by omega)]
theorem rdL_zero (m : List (List Int)) : rd_L1 m 0 = m.headD [] := by
  cases m <;> rfl

/-! ### spec.MatrixOk -/
theorem spec_MatrixOk_ev (m : List (List Int)) (hl : m.length ≤ 4611686018427387904) (hr : ∀ r ∈ m, r.length ≤ 4611686018427387904) : Ev (fun k => spec_MatrixOk.f k m) (okM m) := by
  have key : ∀ (B A : List (List Int)), m = A ++ B → Ev (fun k => spec_MatrixOk.l0 k m (A.length : Int)) (B.all (fun r => okR (m.headD []).length r && in18 (m.headD []).length) && in18 m.length) := by
    intro B
    induction B with
    | nil =>
      intro A h
      refine Ev.step (f := fun _ => some (in18 m.length)) (fun k => ?_) (Ev.now _)
      simp only [spec_MatrixOk.l0]
      rw [if_neg (by rw [h]; simp), spec_l01In_eq, in18_int]
      rfl
    | cons x B ih =>
      intro A h
      have e : m.length = A.length + (B.length + 1) := by rw [h]; simp
      have r : rd_L1 m (A.length : Int) = x := by rw [h]; exact rdL_mid A x B
      have hx : x.length ≤ 4611686018427387904 := hr x (by rw [h]; simp)
      have z := ih (A ++ [x]) (by simp [h])
      have inner : ∀ (D C : List Int), x = C ++ D → Ev (fun k => spec_MatrixOk.l1 k m (A.length : Int) (C.length : Int)) (D.all inB && (B.all (fun r => okR (m.headD []).length r && in18 (m.headD []).length) && in18 m.length)) := by
        intro D
        induction D with
        | nil =>
          intro C hc
          refine Ev.step (fun k => ?_) z
          simp only [spec_MatrixOk.l1]
          rw [if_pos (by omega), if_pos (by omega), r, if_neg (by rw [hc]; simp), wsucc (by omega)]
          simp
        | cons y D ihd =>
          intro C hc
          have ex : x.length = C.length + (D.length + 1) := by rw [hc]; simp
          have ry : rd x (C.length : Int) = y := by rw [hc]; exact rdI_mid C y D
          have zd := ihd (C ++ [y]) (by simp [hc])
          by_cases hy : inB y = true
          · rw [List.all_cons, hy, Bool.true_and]
            refine Ev.step (fun k => ?_) zd
            simp only [spec_MatrixOk.l1]
            rw [if_pos (by omega), if_pos (by omega), r, if_pos (by omega), if_pos (by omega), ry, spec_l01In_eq, Option.bind_some, if_pos (by exact hy), wsucc (by omega)]
            simp
          · rw [List.all_cons, Bool.eq_false_iff.mpr hy, Bool.false_and, Bool.false_and]
            refine Ev.step (f := fun _ => some false) (fun k => ?_) (Ev.now _)
            simp only [spec_MatrixOk.l1]
            rw [if_pos (by omega), if_pos (by omega), r, if_pos (by omega), if_pos (by omega), ry, spec_l01In_eq, Option.bind_some, if_neg (by exact hy)]
      have j : ∀ b : Bool, Ev (fun k => spec_MatrixOk.j1 k m (A.length : Int) b) (!b && (x.all inB && (B.all (fun r => okR (m.headD []).length r && in18 (m.headD []).length) && in18 m.length))) := by
        intro b
        cases b with
        | true => exact Ev.step (f := fun _ => some false) (fun k => by simp only [spec_MatrixOk.j1, if_true]) (Ev.now _)
        | false =>
          have y := inner x [] rfl
          rw [Bool.not_false, Bool.true_and]
          refine Ev.step (fun k => ?_) y
          simp only [spec_MatrixOk.j1, Bool.false_eq_true, if_false]
          rfl
      rw [List.all_cons]
      by_cases hn : x.length = (m.headD []).length
      · refine Ev.step (f := fun k => spec_MatrixOk.j1 k m (A.length : Int) (!in18 x.length)) (fun k => ?_) ?_
        · simp only [spec_MatrixOk.l0]
          rw [if_pos (by omega), if_pos (by omega), if_pos (by omega), r, rdL_zero, if_pos (by omega), spec_l01In_eq, Option.bind_some, in18_int]
        · have jj := j (!in18 x.length)
          have eqv : (okR (m.headD []).length x && in18 (m.headD []).length && B.all (fun r => okR (m.headD []).length r && in18 (m.headD []).length) && in18 m.length) = (!(!in18 x.length) && (x.all inB && (B.all (fun r => okR (m.headD []).length r && in18 (m.headD []).length) && in18 m.length))) := by
            unfold okR
            rw [hn, decide_eq_true rfl]
            cases x.all inB <;> cases in18 (m.headD []).length <;> rfl
          rw [eqv]
          exact jj
      · refine Ev.step (f := fun k => spec_MatrixOk.j1 k m (A.length : Int) true) (fun k => ?_) ?_
        · simp only [spec_MatrixOk.l0]
          rw [if_pos (by omega), if_pos (by omega), if_pos (by omega), r, rdL_zero, if_neg (by omega)]
        · have jj := j true
          have eqv : (okR (m.headD []).length x && in18 (m.headD []).length && B.all (fun r => okR (m.headD []).length r && in18 (m.headD []).length) && in18 m.length) = false := by
            unfold okR
            rw [decide_eq_false hn]
            rfl
          rw [eqv]
          exact jj
  have z := key m [] rfl
  have e : okM m = (m.all (fun r => okR (m.headD []).length r && in18 (m.headD []).length) && in18 m.length) := by
    cases m with
    | nil => rfl
    | cons x B =>
      unfold okM
      cases hx : in18 ((x :: B).headD []).length with
      | true =>
        simp only [Bool.and_true]
        exact Bool.and_comm _ _
      | false => simp
  rw [e]
  exact z

/-! ### impl.MatrixOk -/
theorem closure_eq (x : Int) : impl_MatrixOk_1.f x = some (!inB x) := by
  unfold impl_MatrixOk_1.f
  rw [impl_within_eq]
  rfl
theorem idx_ev (l : List Int) (hl : l.length ≤ 4611686018427387904) : ∃ r : Int, Ev (fun k => slices_IndexFunc_int_int.f k l) r ∧ decide (r ≥ 0) = !(l.all inB) := by
  have key : ∀ (B A : List Int), l = A ++ B → ∃ r : Int, Ev (fun k => slices_IndexFunc_int_int.l0 k l (l.length : Int) (A.length : Int)) r ∧ decide (r ≥ 0) = !(B.all inB) := by
    intro B
    induction B with
    | nil =>
      intro A h
      refine ⟨-1, Ev.step (f := fun _ => some (-1)) (fun k => ?_) (Ev.now _), rfl⟩
      simp only [slices_IndexFunc_int_int.l0]
      rw [if_neg (by rw [h]; simp)]
    | cons x B ih =>
      intro A h
      have e : l.length = A.length + (B.length + 1) := by rw [h]; simp
      have r : rd l (A.length : Int) = x := by rw [h]; exact rdI_mid A x B
      by_cases hx : inB x = true
      · obtain ⟨q, hq, hq2⟩ := ih (A ++ [x]) (by simp [h])
        refine ⟨q, Ev.step (fun k => ?_) hq, by rw [List.all_cons, hx, Bool.true_and]; exact hq2⟩
        simp only [slices_IndexFunc_int_int.l0]
        rw [if_pos (by omega), if_pos (by omega), if_pos (by omega), r, closure_eq, hx, Option.bind_some, if_neg (by simp), wsucc (by omega)]
        simp
      · refine ⟨(A.length : Int), Ev.step (f := fun _ => some (A.length : Int)) (fun k => ?_) (Ev.now _), ?_⟩
        · simp only [slices_IndexFunc_int_int.l0]
          rw [if_pos (by omega), if_pos (by omega), if_pos (by omega), r, closure_eq, Option.bind_some, if_pos (by simp [hx])]
        · rw [List.all_cons, Bool.eq_false_iff.mpr hx, decide_eq_true (by omega)]
          rfl
  exact key l [] rfl
theorem cont_ev (l : List Int) (hl : l.length ≤ 4611686018427387904) : Ev (fun k => slices_ContainsFunc_int_int.f k l) (!(l.all inB)) := by
  obtain ⟨r, h1, h2⟩ := idx_ev l hl
  unfold slices_ContainsFunc_int_int.f
  refine Ev.bind h1 ?_
  rw [h2]
  exact Ev.now _
theorem impl_MatrixOk_ev (m : List (List Int)) (hl : m.length ≤ 4611686018427387904) (hr : ∀ r ∈ m, r.length ≤ 4611686018427387904) : Ev (fun k => impl_MatrixOk.f k m) (okM m) := by
  have key : ∀ (B A : List (List Int)), m = A ++ B → Ev (fun k => impl_MatrixOk.l0 k m m (m.length : Int) (A.length : Int)) (B.all (okR (m.headD []).length)) := by
    intro B
    induction B with
    | nil =>
      intro A h
      refine Ev.step (f := fun _ => some true) (fun k => ?_) (Ev.now _)
      simp only [impl_MatrixOk.l0]
      rw [if_neg (by rw [h]; simp)]
    | cons x B ih =>
      intro A h
      have e : m.length = A.length + (B.length + 1) := by rw [h]; simp
      have r : rd_L1 m (A.length : Int) = x := by rw [h]; exact rdL_mid A x B
      have hx : x.length ≤ 4611686018427387904 := hr x (by rw [h]; simp)
      have z := ih (A ++ [x]) (by simp [h])
      rw [List.all_cons]
      by_cases hn : x.length = (m.headD []).length
      · refine Ev.step (f := fun k => (slices_ContainsFunc_int_int.f k x).bind fun t => if t = true then some false else impl_MatrixOk.l0 k m m (m.length : Int) ((A.length + 1 : Nat) : Int)) (fun k => ?_) (Ev.bind (cont_ev x hx) ?_)
        · simp only [impl_MatrixOk.l0]
          rw [if_pos (by omega), if_pos (by omega), if_pos (by omega), if_pos (by omega), r, rdL_zero, if_pos (by omega), wsucc (by omega)]
        · have hok : okR (m.headD []).length x = x.all inB := by
            unfold okR
            rw [decide_eq_true hn, Bool.true_and]
          rw [hok]
          cases hb : x.all inB with
          | true =>
            refine Ev.neg (by simp) ?_
            simpa using z
          | false => exact Ev.pos (by rfl) (Ev.now _)
      · have hok : okR (m.headD []).length x = false := by
          unfold okR
          rw [decide_eq_false hn, Bool.false_and]
        rw [hok, Bool.false_and]
        refine Ev.step (f := fun _ => some false) (fun k => ?_) (Ev.now _)
        simp only [impl_MatrixOk.l0]
        rw [if_pos (by omega), if_pos (by omega), if_pos (by omega), if_pos (by omega), r, rdL_zero, if_neg (by omega)]
  unfold impl_MatrixOk.f okM
  rw [impl_within_eq, in18_int]
  cases h1 : in18 m.length with
  | false =>
    refine Ev.congr (g := fun k => _) (f := fun k => impl_MatrixOk.j0 k m true) (fun k => ?_) ?_
    · rw [Option.bind_some, if_neg (by simp)]
    · exact Ev.step (f := fun _ => some false) (fun k => by simp only [impl_MatrixOk.j0, if_true]) (Ev.now _)
  | true =>
    have hp : 1 ≤ m.length := (of_decide_eq_true h1).1
    refine Ev.congr (f := fun k => impl_MatrixOk.j0 k m (!in18 (m.headD []).length)) (fun k => ?_) ?_
    · rw [Option.bind_some, if_pos rfl, if_pos (by omega), impl_within_eq, rdL_zero, in18_int, Option.bind_some]
    · cases h2 : in18 (m.headD []).length with
      | false => exact Ev.step (f := fun _ => some false) (fun k => by simp only [impl_MatrixOk.j0, Bool.not_false, if_true]) (Ev.now _)
      | true =>
        refine Ev.step (fun k => ?_) (key m [] rfl)
        simp only [impl_MatrixOk.j0, Bool.not_true, Bool.false_eq_true, if_false]
        rfl

/-! ### matrices of bytes -/
def xs : Nat → (Nat → Nat) → Nat
  | 0, _ => 0
  | n + 1, h => xs n h ^^^ h n
theorem xs_lt {h : Nat → Nat} : ∀ {n : Nat}, (∀ k, k < n → h k < 256) → xs n h < 256
  | 0, _ => by simp [xs]
  | n + 1, H => Gf.xor_lt (n := 8) (xs_lt (fun k hk => H k (by omega))) (H n (by omega))
theorem xs_congr {f g : Nat → Nat} : ∀ {n : Nat}, (∀ k, k < n → f k = g k) → xs n f = xs n g
  | 0, _ => rfl
  | n + 1, H => by rw [xs, xs, xs_congr (fun k hk => H k (by omega)), H n (by omega)]
theorem xs_zero : ∀ n : Nat, xs n (fun _ => 0) = 0
  | 0 => rfl
  | n + 1 => by rw [xs, xs_zero n, Nat.xor_self]
theorem xs_xor (f g : Nat → Nat) : ∀ n : Nat, xs n (fun k => f k ^^^ g k) = xs n f ^^^ xs n g
  | 0 => by simp [xs]
  | n + 1 => by
    rw [xs, xs, xs, xs_xor f g n]
    ac_rfl
theorem mul_xs (a : Nat) (h : Nat → Nat) : ∀ n : Nat, Gf.mul a (xs n h) = xs n (fun k => Gf.mul a (h k))
  | 0 => Gf.mul_zero_right a
  | n + 1 => by rw [xs, xs, Gf.mul_xor_right, mul_xs a h n]
theorem xs_mul (b : Nat) {h : Nat → Nat} : ∀ {n : Nat}, (∀ k, k < n → h k < 256) → Gf.mul (xs n h) b = xs n (fun k => Gf.mul (h k) b)
  | 0, _ => Gf.mul_zero_left b
  | n + 1, H => by rw [xs, xs, Gf.mul_xor_left b (xs_lt (fun k hk => H k (by omega))) (H n (by omega)), xs_mul b (fun k hk => H k (by omega))]
theorem xs_swap (m : Nat) (h : Nat → Nat → Nat) : ∀ n : Nat, xs n (fun k => xs m (fun l => h k l)) = xs m (fun l => xs n (fun k => h k l))
  | 0 => (xs_zero m).symm
  | n + 1 => by
    rw [xs, xs_swap m h n]
    exact (xs_xor _ _ m).symm
theorem xs_off {j : Nat} (f : Nat → Nat) : ∀ {n : Nat}, n ≤ j → xs n (fun k => if k = j then f k else 0) = 0
  | 0, _ => rfl
  | n + 1, h => by rw [xs, xs_off f (by omega), if_neg (by omega), Nat.xor_self]
theorem xs_one {j : Nat} (f : Nat → Nat) : ∀ {n : Nat}, j < n → xs n (fun k => if k = j then f k else 0) = f j
  | n + 1, h => by
    rw [xs]
    by_cases e : n = j
    · subst e
      rw [if_pos rfl, xs_off f (Nat.le_refl _), Nat.zero_xor]
    · rw [if_neg e, xs_one f (by omega), Nat.xor_zero]
def mk (r c : Nat) (f : Nat → Nat → Nat) : List (List Int) := (List.range r).map fun i => (List.range c).map fun j => ((f i j : Nat) : Int)
def ent (m : List (List Int)) (i j : Nat) : Nat := ((m.getD i []).getD j 0).toNat
theorem mk_length (r c : Nat) (f : Nat → Nat → Nat) : (mk r c f).length = r := by simp [mk]
theorem mk_get (r c : Nat) (f : Nat → Nat → Nat) {i : Nat} (hi : i < r) : (mk r c f).getD i [] = (List.range c).map fun j => ((f i j : Nat) : Int) := by
  unfold mk
  rw [List.getD_eq_getElem?_getD, List.getElem?_map, List.getElem?_range hi]
  rfl
theorem headD_getD (m : List (List Int)) : m.headD [] = m.getD 0 [] := by cases m <;> rfl
theorem mk_head (r c : Nat) (f : Nat → Nat → Nat) (hr : 0 < r) : ((mk r c f).headD []).length = c := by rw [headD_getD, mk_get r c f hr]; simp
theorem ent_mk (r c : Nat) (f : Nat → Nat → Nat) {i j : Nat} (hi : i < r) (hj : j < c) : ent (mk r c f) i j = f i j := by
  unfold ent
  rw [mk_get r c f hi, List.getD_eq_getElem?_getD, List.getElem?_map, List.getElem?_range hj]
  rfl
theorem mk_congr {r c : Nat} {f g : Nat → Nat → Nat} (H : ∀ i, i < r → ∀ j, j < c → f i j = g i j) : mk r c f = mk r c g := by
  unfold mk
  refine List.map_congr_left (fun i hi => List.map_congr_left (fun j hj => ?_))
  rw [H i (List.mem_range.mp hi) j (List.mem_range.mp hj)]
theorem okM_mk {r c : Nat} {f : Nat → Nat → Nat} (h1 : 1 ≤ r) (h2 : r ≤ 8) (h3 : 1 ≤ c) (h4 : c ≤ 8) (H : ∀ i, i < r → ∀ j, j < c → f i j < 256) : okM (mk r c f) = true := by
  unfold okM
  rw [mk_length, mk_head r c f (by omega)]
  have e1 : in18 r = true := decide_eq_true ⟨h1, h2⟩
  have e2 : in18 c = true := decide_eq_true ⟨h3, h4⟩
  rw [e1, e2, Bool.true_and, Bool.true_and, List.all_eq_true]
  intro x hx
  unfold mk at hx
  obtain ⟨i, hi, rfl⟩ := List.mem_map.mp hx
  unfold okR
  rw [Bool.and_eq_true]
  refine ⟨by simp, ?_⟩
  rw [List.all_eq_true]
  intro y hy
  obtain ⟨j, hj, rfl⟩ := List.mem_map.mp hy
  have := H i (List.mem_range.mp hi) j (List.mem_range.mp hj)
  unfold inB
  exact decide_eq_true (by omega)
theorem of_okM {m : List (List Int)} (h : okM m = true) : 1 ≤ m.length ∧ m.length ≤ 8 ∧ 1 ≤ (m.headD []).length ∧ (m.headD []).length ≤ 8 ∧ (∀ i, i < m.length → (m.getD i []).length = (m.headD []).length ∧ ∀ x ∈ m.getD i [], 0 ≤ x ∧ x ≤ 255) := by
  unfold okM at h
  rw [Bool.and_eq_true, Bool.and_eq_true] at h
  obtain ⟨⟨h1, h2⟩, h3⟩ := h
  have h1 := of_decide_eq_true h1
  have h2 := of_decide_eq_true h2
  refine ⟨h1.1, h1.2, h2.1, h2.2, fun i hi => ?_⟩
  rw [List.all_eq_true] at h3
  have e : m.getD i [] = m[i] := by rw [List.getD_eq_getElem?_getD, List.getElem?_eq_getElem hi]; rfl
  have h4 := h3 _ (List.getElem_mem hi)
  unfold okR at h4
  rw [Bool.and_eq_true] at h4
  rw [e]
  refine ⟨of_decide_eq_true h4.1, fun x hx => ?_⟩
  exact of_decide_eq_true (List.all_eq_true.mp h4.2 x hx)
theorem rd_ent {m : List (List Int)} (h : okM m = true) {i j : Nat} (hi : i < m.length) (hj : j < (m.headD []).length) : rd (rd_L1 m (i : Int)) (j : Int) = ((ent m i j : Nat) : Int) ∧ ent m i j < 256 := by
  obtain ⟨_, _, _, _, H⟩ := of_okM h
  obtain ⟨h1, h2⟩ := H i hi
  unfold rd rd_L1 ent
  rw [Int.toNat_natCast, Int.toNat_natCast]
  have hj' : j < (m.getD i []).length := by omega
  have e : (m.getD i []).getD j 0 = (m.getD i [])[j] := by rw [List.getD_eq_getElem?_getD, List.getElem?_eq_getElem hj']; rfl
  have := h2 _ (List.getElem_mem hj')
  rw [e]
  omega
theorem rdL_len {m : List (List Int)} (h : okM m = true) {i : Nat} (hi : i < m.length) : (rd_L1 m (i : Int)).length = (m.headD []).length := by
  obtain ⟨_, _, _, _, H⟩ := of_okM h
  unfold rd_L1
  rw [Int.toNat_natCast]
  exact (H i hi).1
theorem eq_mk {m : List (List Int)} (h : okM m = true) : m = mk m.length (m.headD []).length (ent m) := by
  obtain ⟨_, _, _, _, H⟩ := of_okM h
  refine List.ext_getElem (by rw [mk_length]) (fun i h1 h2 => ?_)
  have e : m[i] = m.getD i [] := by rw [List.getD_eq_getElem?_getD, List.getElem?_eq_getElem h1]; rfl
  have e2 : (mk m.length (m.headD []).length (ent m))[i] = (mk m.length (m.headD []).length (ent m)).getD i [] := by rw [List.getD_eq_getElem?_getD, List.getElem?_eq_getElem h2]; rfl
  rw [e, e2, mk_get _ _ _ h1]
  obtain ⟨h3, h4⟩ := H i h1
  refine List.ext_getElem (by simpa using h3) (fun j h5 h6 => ?_)
  have := h4 _ (List.getElem_mem h5)
  have h8 : (m.getD i []).getD j 0 = (m.getD i [])[j] := by rw [List.getD_eq_getElem?_getD (l := m.getD i []), List.getElem?_eq_getElem h5]; rfl
  have h7 : ent m i j = ((m.getD i [])[j]).toNat := by unfold ent; rw [h8]
  rw [List.getElem_map, List.getElem_range, h7]
  omega
theorem gmul_nat {a b : Nat} (ha : a < 256) (hb : b < 256) : gmul (a : Int) (b : Int) = ((Gf.mul a b : Nat) : Int) := by
  unfold gmul
  rw [modb_nat ha, modb_nat hb]
def mulM (a b : List (List Int)) : List (List Int) := mk a.length (b.headD []).length (fun i j => xs b.length (fun k => Gf.mul (ent a i k) (ent b k j)))
def mulR (a b : List (List Int)) : List (List Int) := if okM a = true ∧ okM b = true ∧ (a.headD []).length = b.length then mulM a b else []
theorem range_map_succ {α : Type} (F : Nat → α) (n : Nat) : (List.range (n + 1)).map F = (List.range n).map F ++ [F n] := by rw [List.range_succ, List.map_append]; rfl
theorem mulR_mk {r n c : Nat} {f g : Nat → Nat → Nat} (hr : 1 ≤ r ∧ r ≤ 8) (hn : 1 ≤ n ∧ n ≤ 8) (hc : 1 ≤ c ∧ c ≤ 8) (hf : ∀ i, i < r → ∀ j, j < n → f i j < 256) (hg : ∀ i, i < n → ∀ j, j < c → g i j < 256) :
    mulR (mk r n f) (mk n c g) = mk r c (fun i j => xs n (fun k => Gf.mul (f i k) (g k j))) := by
  unfold mulR
  rw [if_pos ⟨okM_mk hr.1 hr.2 hn.1 hn.2 hf, okM_mk hn.1 hn.2 hc.1 hc.2 hg, by rw [mk_head r n f (by omega), mk_length]⟩]
  unfold mulM
  rw [mk_length, mk_length, mk_head n c g (by omega)]
  refine mk_congr (fun i hi j hj => xs_congr (fun k hk => ?_))
  rw [ent_mk r n f hi hk, ent_mk n c g hk hj]
theorem mul_lt_of {n : Nat} {f g : Nat → Nat} (hf : ∀ k, k < n → f k < 256) : xs n (fun k => Gf.mul (f k) (g k)) < 256 := xs_lt (fun k hk => Gf.mul_lt _ (hf k hk))
/-- Products do not care how they are taken together. -/
theorem assoc_mk {r n m c : Nat} {f g h : Nat → Nat → Nat} (hr : 1 ≤ r ∧ r ≤ 8) (hn : 1 ≤ n ∧ n ≤ 8) (hm : 1 ≤ m ∧ m ≤ 8) (hc : 1 ≤ c ∧ c ≤ 8)
    (hf : ∀ i, i < r → ∀ j, j < n → f i j < 256) (hg : ∀ i, i < n → ∀ j, j < m → g i j < 256) (hh : ∀ i, i < m → ∀ j, j < c → h i j < 256) :
    mulR (mulR (mk r n f) (mk n m g)) (mk m c h) = mulR (mk r n f) (mulR (mk n m g) (mk m c h)) := by
  rw [mulR_mk hr hn hm hf hg, mulR_mk hr hm hc (fun i hi j hj => mul_lt_of (hf i hi)) hh, mulR_mk hn hm hc hg hh, mulR_mk hr hn hc hf (fun i hi j hj => mul_lt_of (hg i hi))]
  refine mk_congr (fun i hi j hj => ?_)
  have e1 : xs m (fun k => Gf.mul (xs n (fun l => Gf.mul (f i l) (g l k))) (h k j)) = xs m (fun k => xs n (fun l => Gf.mul (f i l) (Gf.mul (g l k) (h k j)))) :=
    xs_congr (fun k hk => by
      rw [xs_mul _ (fun l hl => Gf.mul_lt _ (hf i hi l hl))]
      exact xs_congr (fun l hl => Gf.mul_assoc (hf i hi l hl) (hg l hl k hk) (hh k hk j hj)))
  rw [e1, xs_swap]
  exact xs_congr (fun l hl => (mul_xs _ _ _).symm)
def idf (i j : Nat) : Nat := if i = j then 1 else 0
theorem idf_lt (i j : Nat) : idf i j < 256 := by unfold idf; split <;> omega
theorem mul_one_mk {r n : Nat} {f : Nat → Nat → Nat} (hr : 1 ≤ r ∧ r ≤ 8) (hn : 1 ≤ n ∧ n ≤ 8) (hf : ∀ i, i < r → ∀ j, j < n → f i j < 256) : mulR (mk r n f) (mk n n idf) = mk r n f := by
  rw [mulR_mk hr hn hn hf (fun i _ j _ => idf_lt i j)]
  refine mk_congr (fun i hi j hj => ?_)
  have e : xs n (fun k => Gf.mul (f i k) (idf k j)) = xs n (fun k => if k = j then f i k else 0) := xs_congr (fun k hk => by
    unfold idf
    by_cases h : k = j
    · rw [if_pos h, if_pos h, Gf.mul_one_right]
    · rw [if_neg h, if_neg h, Gf.mul_zero_right])
  rw [e, xs_one _ hj]
theorem one_mul_mk {n c : Nat} {f : Nat → Nat → Nat} (hn : 1 ≤ n ∧ n ≤ 8) (hc : 1 ≤ c ∧ c ≤ 8) (hf : ∀ i, i < n → ∀ j, j < c → f i j < 256) : mulR (mk n n idf) (mk n c f) = mk n c f := by
  rw [mulR_mk hn hn hc (fun i _ j _ => idf_lt i j) hf]
  refine mk_congr (fun i hi j hj => ?_)
  have e : xs n (fun k => Gf.mul (idf i k) (f k j)) = xs n (fun k => if k = i then f k j else 0) := xs_congr (fun k hk => by
    unfold idf
    by_cases h : k = i
    · subst h
      rw [if_pos rfl, if_pos rfl, Gf.mul_one_left (hf k hk j hj)]
    · rw [if_neg h, if_neg (fun e => h e.symm), Gf.mul_zero_left])
  rw [e, xs_one (fun k => f k j) hi]

/-! ### impl.MulM -/
theorem impl_MulM_ev (a b : List (List Int)) (ha : a.length ≤ 1099511627776) (hb : b.length ≤ 1099511627776) (hra : ∀ r ∈ a, r.length ≤ 1099511627776) (hrb : ∀ r ∈ b, r.length ≤ 1099511627776) : Ev (fun k => impl_MulM.f k a b) (mulR a b) := by
  have ea := impl_MatrixOk_ev a (by omega) (fun r hr => by have := hra r hr; omega)
  have eb := impl_MatrixOk_ev b (by omega) (fun r hr => by have := hrb r hr; omega)
  have bad : Ev (fun k => impl_MulM.j0 k a b true) ([] : List (List Int)) := Ev.step (f := fun _ => some []) (fun k => by simp only [impl_MulM.j0, if_true]) (Ev.now _)
  unfold impl_MulM.f
  refine Ev.bind ea ?_
  cases oa : okM a with
  | false =>
    rw [show mulR a b = [] by unfold mulR; rw [if_neg (by simp [oa])]]
    exact Ev.neg (by simp) bad
  | true =>
    refine Ev.pos rfl (Ev.bind eb ?_)
    cases ob : okM b with
    | false =>
      rw [show mulR a b = [] by unfold mulR; rw [if_neg (by simp [ob])]]
      exact Ev.neg (by simp) bad
    | true =>
      obtain ⟨a1, a2, a3, a4, _⟩ := of_okM oa
      obtain ⟨b1, b2, b3, b4, _⟩ := of_okM ob
      refine Ev.pos rfl (Ev.pos (by omega) ?_)
      rw [rdL_zero]
      by_cases hn : (a.headD []).length = b.length
      · rw [show mulR a b = mulM a b by unfold mulR; rw [if_pos ⟨oa, ob, hn⟩]]
        rw [show ((((a.headD []).length : Nat) : Int) != ((b.length : Nat) : Int)) = false by rw [hn]; simp]
        have L2 : ∀ (i j : Nat), i < a.length → j < (b.headD []).length → ∀ (out : List (List Int)) (P Q : List Int) (v : List (List Int)), P.length = j →
            ∀ d k : Nat, k ≤ b.length → b.length - k = d →
            Ev (fun q => impl_MulM.l1 q b out (rd_L1 a (i : Int)) (P ++ ((xs b.length (fun k => Gf.mul (ent a i k) (ent b k j)) : Nat) : Int) :: Q) a (a.length : Int) (i : Int) ((b.headD []).length : Int) ((j + 1 : Nat) : Int)) v →
            Ev (fun q => impl_MulM.l2 q b out (rd_L1 a (i : Int)) (P ++ ((xs k (fun k => Gf.mul (ent a i k) (ent b k j)) : Nat) : Int) :: Q) (j : Int) a (a.length : Int) (i : Int) ((b.headD []).length : Int) (j : Int) (rd_L1 a (i : Int)) ((rd_L1 a (i : Int)).length : Int) (k : Int)) v := by
          intro i j hi hj out P Q v hP d
          have hla := rdL_len oa hi
          induction d with
          | zero =>
            intro k hk hd h
            obtain rfl : k = b.length := by omega
            refine Ev.step (fun q => ?_) h
            simp only [impl_MulM.l2]
            rw [if_neg (by omega), wsucc (by omega)]
          | succ d ih =>
            intro k hk hd h
            have z := ih (k + 1) (by omega) (by omega) h
            have hlb := rdL_len ob (i := k) (by omega)
            obtain ⟨q1, q2⟩ := rd_ent oa hi (j := k) (by omega)
            obtain ⟨q3, q4⟩ := rd_ent ob (i := k) (by omega) hj
            have lt := mul_lt_of (n := k) (f := fun k => ent a i k) (g := fun k => ent b k j) (fun l hl => (rd_ent oa hi (j := l) (by omega)).2)
            have mt := Gf.mul_lt (ent b k j) q2
            have em := impl_MulG_ev (a := ((ent a i k : Nat) : Int)) (b := ((ent b k j : Nat) : Int)) (by omega) (by omega) (by omega) (by omega)
            rw [gmul_nat q2 q4] at em
            refine Ev.step (f := fun q => (impl_MulG.f q ((ent a i k : Nat) : Int) ((ent b k j : Nat) : Int)).bind fun t => impl_MulM.l2 q b out (rd_L1 a (i : Int)) ((P ++ ((xs k (fun k => Gf.mul (ent a i k) (ent b k j)) : Nat) : Int) :: Q).set P.length (Go.bits .xor .i64 ((xs k (fun k => Gf.mul (ent a i k) (ent b k j)) : Nat) : Int) t)) (j : Int) a (a.length : Int) (i : Int) ((b.headD []).length : Int) (j : Int) (rd_L1 a (i : Int)) ((rd_L1 a (i : Int)).length : Int) ((k + 1 : Nat) : Int)) (fun q => ?_) (Ev.bind em ?_)
            · simp only [impl_MulM.l2]
              rw [if_pos (by omega), if_pos (by omega), if_pos (by omega), if_pos (by omega), if_pos (by simp; omega), if_pos (by omega), if_pos (by omega), q1, q3, wsucc (by omega), Int.toNat_natCast]
              subst hP
              rw [rdI_mid]
            · rw [set_midI, bits_xor64 (by omega) (by omega)]
              exact z
        have L1 : ∀ (i : Nat), i < a.length → ∀ (out : List (List Int)) (v : List (List Int)), out.length ≤ 8 →
            Ev (fun q => impl_MulM.l0 q b (out ++ [(List.range (b.headD []).length).map fun j => ((xs b.length (fun k => Gf.mul (ent a i k) (ent b k j)) : Nat) : Int)]) a (a.length : Int) ((i + 1 : Nat) : Int)) v →
            ∀ d j : Nat, j ≤ (b.headD []).length → (b.headD []).length - j = d →
            Ev (fun q => impl_MulM.l1 q b out (rd_L1 a (i : Int)) ((List.range j).map (fun j => ((xs b.length (fun k => Gf.mul (ent a i k) (ent b k j)) : Nat) : Int)) ++ List.replicate d 0) a (a.length : Int) (i : Int) ((b.headD []).length : Int) (j : Int)) v := by
          intro i hi out v ho h d
          induction d with
          | zero =>
            intro j hj hd
            obtain rfl : j = (b.headD []).length := by omega
            refine Ev.step (fun q => ?_) h
            simp only [impl_MulM.l1]
            rw [if_neg (by omega), if_pos (by omega), wsucc (by omega), List.replicate_zero, List.append_nil]
          | succ d ih =>
            intro j hj hd
            have z := ih (j + 1) (by omega) (by omega)
            rw [range_map_succ, List.append_assoc] at z
            have y := L2 i j hi (by omega) out ((List.range j).map (fun j => ((xs b.length (fun k => Gf.mul (ent a i k) (ent b k j)) : Nat) : Int))) (List.replicate d 0) v (by simp) b.length 0 (by omega) (by omega) z
            refine Ev.step (fun q => ?_) y
            simp only [impl_MulM.l1]
            rw [if_pos (by omega), List.replicate_succ]
            rfl
        have L0 : ∀ d i : Nat, i ≤ a.length → a.length - i = d → Ev (fun q => impl_MulM.l0 q b ((List.range i).map fun i => (List.range (b.headD []).length).map fun j => ((xs b.length (fun k => Gf.mul (ent a i k) (ent b k j)) : Nat) : Int)) a (a.length : Int) (i : Int)) (mulM a b) := by
          intro d
          induction d with
          | zero =>
            intro i hi hd
            obtain rfl : i = a.length := by omega
            refine Ev.step (f := fun _ => some (mulM a b)) (fun q => ?_) (Ev.now _)
            simp only [impl_MulM.l0]
            rw [if_neg (by omega)]
            rfl
          | succ d ih =>
            intro i hi hd
            have z := ih (i + 1) (by omega) (by omega)
            rw [range_map_succ] at z
            have y := L1 i (by omega) _ _ (by simp; omega) z (b.headD []).length 0 (by omega) (by omega)
            refine Ev.step (fun q => ?_) y
            simp only [impl_MulM.l0]
            rw [if_pos (by omega), if_pos (by omega), if_pos (by omega), if_pos (by omega), rdL_zero, if_pos (by omega), if_pos (by omega), Option.bind_some, Int.toNat_natCast, List.length_replicate]
            simp
        have y := L0 a.length 0 (by omega) (by omega)
        refine Ev.step (fun q => ?_) y
        simp only [impl_MulM.j0, Bool.false_eq_true, if_false]
        rfl
      · rw [show mulR a b = [] by unfold mulR; rw [if_neg (fun h => hn h.2.2)]]
        rw [show ((((a.headD []).length : Nat) : Int) != ((b.length : Nat) : Int)) = true from bne_iff_ne.mpr (by omega)]
        exact bad

/-! ### spec.MulM -/
theorem spec_MulM_ev (a b : List (List Int)) (ha : a.length ≤ 1099511627776) (hb : b.length ≤ 1099511627776) (hra : ∀ r ∈ a, r.length ≤ 1099511627776) (hrb : ∀ r ∈ b, r.length ≤ 1099511627776) : Ev (fun k => spec_MulM.f k a b) (mulR a b) := by
  have ea := spec_MatrixOk_ev a (by omega) (fun r hr => by have := hra r hr; omega)
  have eb := spec_MatrixOk_ev b (by omega) (fun r hr => by have := hrb r hr; omega)
  have bad : Ev (fun k => spec_MulM.j0 k a b [] true) ([] : List (List Int)) := Ev.step (f := fun _ => some []) (fun k => by simp only [spec_MulM.j0, if_true]) (Ev.now _)
  unfold spec_MulM.f
  refine Ev.some_bind rfl (Ev.bind ea ?_)
  cases oa : okM a with
  | false =>
    rw [show mulR a b = [] by unfold mulR; rw [if_neg (by simp [oa])]]
    exact Ev.neg (by simp) bad
  | true =>
    refine Ev.pos rfl (Ev.bind eb ?_)
    cases ob : okM b with
    | false =>
      rw [show mulR a b = [] by unfold mulR; rw [if_neg (by simp [ob])]]
      exact Ev.neg (by simp) bad
    | true =>
      obtain ⟨a1, a2, a3, a4, _⟩ := of_okM oa
      obtain ⟨b1, b2, b3, b4, _⟩ := of_okM ob
      refine Ev.pos rfl (Ev.pos (by omega) ?_)
      rw [rdL_zero]
      by_cases hn : (a.headD []).length = b.length
      · rw [show mulR a b = mulM a b by unfold mulR; rw [if_pos ⟨oa, ob, hn⟩]]
        rw [show ((((a.headD []).length : Nat) : Int) != ((b.length : Nat) : Int)) = false by rw [hn]; simp]
        have L2 : ∀ (i j : Nat), i < a.length → j < (b.headD []).length → ∀ (out : List (List Int)) (P Q : List Int) (v : List (List Int)), P.length = j →
            ∀ d k : Nat, k ≤ b.length → b.length - k = d →
            Ev (fun q => spec_MulM.l1 q a b out (i : Int) (P ++ ((xs b.length (fun k => Gf.mul (ent a i k) (ent b k j)) : Nat) : Int) :: Q) ((j + 1 : Nat) : Int)) v →
            Ev (fun q => spec_MulM.l2 q a b out (i : Int) (P ++ ((xs k (fun k => Gf.mul (ent a i k) (ent b k j)) : Nat) : Int) :: Q) (j : Int) (k : Int)) v := by
          intro i j hi hj out P Q v hP d
          have hla := rdL_len oa hi
          induction d with
          | zero =>
            intro k hk hd h
            obtain rfl : k = b.length := by omega
            refine Ev.step (fun q => ?_) h
            simp only [spec_MulM.l2]
            rw [if_neg (by omega), wsucc (by omega)]
          | succ d ih =>
            intro k hk hd h
            have z := ih (k + 1) (by omega) (by omega) h
            have hlb := rdL_len ob (i := k) (by omega)
            obtain ⟨q1, q2⟩ := rd_ent oa hi (j := k) (by omega)
            obtain ⟨q3, q4⟩ := rd_ent ob (i := k) (by omega) hj
            have lt := mul_lt_of (n := k) (f := fun k => ent a i k) (g := fun k => ent b k j) (fun l hl => (rd_ent oa hi (j := l) (by omega)).2)
            have mt := Gf.mul_lt (ent b k j) q2
            have em := spec_MulG_ev (a := ((ent a i k : Nat) : Int)) (b := ((ent b k j : Nat) : Int)) (by omega) (by omega) (by omega) (by omega)
            rw [gmul_nat q2 q4] at em
            refine Ev.step (f := fun q => (spec_MulG.f q ((ent a i k : Nat) : Int) ((ent b k j : Nat) : Int)).bind fun t => spec_MulM.l2 q a b out (i : Int) ((P ++ ((xs k (fun k => Gf.mul (ent a i k) (ent b k j)) : Nat) : Int) :: Q).set P.length (Go.bits .xor .i64 ((xs k (fun k => Gf.mul (ent a i k) (ent b k j)) : Nat) : Int) t)) (j : Int) ((k + 1 : Nat) : Int)) (fun q => ?_) (Ev.bind em ?_)
            · simp only [spec_MulM.l2]
              rw [if_pos (by omega), if_pos (by omega), if_pos (by simp; omega), if_pos (by omega), if_pos (by omega), if_pos (by omega), if_pos (by omega), if_pos (by omega), q1, q3, wsucc (by omega), Int.toNat_natCast]
              subst hP
              rw [rdI_mid]
            · rw [set_midI, bits_xor64 (by omega) (by omega)]
              exact z
        have L1 : ∀ (i : Nat), i < a.length → ∀ (out : List (List Int)) (v : List (List Int)), out.length ≤ 8 →
            Ev (fun q => spec_MulM.l0 q a b (out ++ [(List.range (b.headD []).length).map fun j => ((xs b.length (fun k => Gf.mul (ent a i k) (ent b k j)) : Nat) : Int)]) ((i + 1 : Nat) : Int)) v →
            ∀ d j : Nat, j ≤ (b.headD []).length → (b.headD []).length - j = d →
            Ev (fun q => spec_MulM.l1 q a b out (i : Int) ((List.range j).map (fun j => ((xs b.length (fun k => Gf.mul (ent a i k) (ent b k j)) : Nat) : Int)) ++ List.replicate d 0) (j : Int)) v := by
          intro i hi out v ho h d
          induction d with
          | zero =>
            intro j hj hd
            obtain rfl : j = (b.headD []).length := by omega
            refine Ev.step (fun q => ?_) h
            simp only [spec_MulM.l1]
            rw [if_pos (by omega), rdL_zero, if_neg (by omega), if_pos (by omega), wsucc (by omega), List.replicate_zero, List.append_nil]
          | succ d ih =>
            intro j hj hd
            have z := ih (j + 1) (by omega) (by omega)
            rw [range_map_succ, List.append_assoc] at z
            have y := L2 i j hi (by omega) out ((List.range j).map (fun j => ((xs b.length (fun k => Gf.mul (ent a i k) (ent b k j)) : Nat) : Int))) (List.replicate d 0) v (by simp) b.length 0 (by omega) (by omega) z
            refine Ev.step (fun q => ?_) y
            simp only [spec_MulM.l1]
            rw [if_pos (by omega), rdL_zero, if_pos (by omega), List.replicate_succ]
            rfl
        have L0 : ∀ d i : Nat, i ≤ a.length → a.length - i = d → Ev (fun q => spec_MulM.l0 q a b ((List.range i).map fun i => (List.range (b.headD []).length).map fun j => ((xs b.length (fun k => Gf.mul (ent a i k) (ent b k j)) : Nat) : Int)) (i : Int)) (mulM a b) := by
          intro d
          induction d with
          | zero =>
            intro i hi hd
            obtain rfl : i = a.length := by omega
            refine Ev.step (f := fun _ => some (mulM a b)) (fun q => ?_) (Ev.now _)
            simp only [spec_MulM.l0]
            rw [if_neg (by omega)]
            rfl
          | succ d ih =>
            intro i hi hd
            have z := ih (i + 1) (by omega) (by omega)
            rw [range_map_succ] at z
            have y := L1 i (by omega) _ _ (by simp; omega) z (b.headD []).length 0 (by omega) (by omega)
            refine Ev.step (fun q => ?_) y
            simp only [spec_MulM.l0]
            rw [if_pos (by omega), if_pos (by omega), rdL_zero, if_pos (by omega), if_pos (by omega), Int.toNat_natCast]
            simp
        have y := L0 a.length 0 (by omega) (by omega)
        refine Ev.step (fun q => ?_) y
        simp only [spec_MulM.j0, Bool.false_eq_true, if_false]
        rfl
      · rw [show mulR a b = [] by unfold mulR; rw [if_neg (fun h => hn h.2.2)]]
        rw [show ((((a.headD []).length : Nat) : Int) != ((b.length : Nat) : Int)) = true from bne_iff_ne.mpr (by omega)]
        exact bad

/-! ### impl.OneM -/
def oneR (n : Int) : List (List Int) := if 1 ≤ n ∧ n ≤ 8 then mk n.toNat n.toNat idf else []
theorem one_row {n i : Nat} (hi : i < n) : (List.replicate n (0 : Int)).set i 1 = (List.range n).map fun j => ((idf i j : Nat) : Int) := by
  refine List.ext_getElem (by simp) (fun j h1 h2 => ?_)
  rw [List.getElem_set, List.getElem_map, List.getElem_range]
  unfold idf
  by_cases e : i = j
  · rw [if_pos e, if_pos e]; rfl
  · rw [if_neg e, if_neg e, List.getElem_replicate]; rfl
theorem impl_OneM_ev (n : Int) : Ev (fun k => impl_OneM.f k n) (oneR n) := by
  unfold impl_OneM.f oneR
  rw [impl_within_eq]
  refine Ev.some_bind rfl ?_
  by_cases h : 1 ≤ n ∧ n ≤ 8
  · rw [if_pos h]
    refine Ev.pos (decide_eq_true h) ?_
    obtain ⟨N, rfl⟩ := Int.eq_ofNat_of_zero_le (show 0 ≤ n by omega)
    have key : ∀ d i : Nat, i ≤ N → N - i = d → Ev (fun q => impl_OneM.l0 q (N : Int) ((List.range i).map fun i => (List.range N).map fun j => ((idf i j : Nat) : Int)) (i : Int)) (mk N N idf) := by
      intro d
      induction d with
      | zero =>
        intro i hi hd
        obtain rfl : i = N := by omega
        refine Ev.step (f := fun _ => some (mk i i idf)) (fun q => ?_) (Ev.now _)
        simp only [impl_OneM.l0]
        rw [if_neg (by omega)]
        rfl
      | succ d ih =>
        intro i hi hd
        have z := ih (i + 1) (by omega) (by omega)
        rw [range_map_succ] at z
        refine Ev.step (fun q => ?_) z
        simp only [impl_OneM.l0]
        rw [if_pos (by omega), if_pos (by omega), if_pos (by omega), Option.bind_some, if_pos (by omega), Int.toNat_natCast, Int.toNat_natCast, List.length_replicate, if_pos (by omega), if_pos (by simp; omega), wsucc (by omega), one_row (by omega)]
    exact key N 0 (by omega) (by omega)
  · rw [if_neg h]
    exact Ev.neg (by simpa using h) (Ev.now _)

/-! ### laws.sameMatrix at one matrix -/
theorem sameInts_ev (l : List Int) (hl : l.length ≤ 4611686018427387904) : Ev (fun k => laws_sameInts.f k l l) true := by
  have key : ∀ d (i : Nat), i ≤ l.length → l.length - i = d → Ev (fun k => laws_sameInts.l0 k l l (i : Int)) true := by
    intro d
    induction d with
    | zero =>
      intro i hi hd
      exact Ev.step (f := fun _ => some true) (fun k => by simp only [laws_sameInts.l0]; rw [if_neg (by omega)]) (Ev.now _)
    | succ d ih =>
      intro i hi hd
      refine Ev.step (fun k => ?_) (ih (i + 1) (by omega) (by omega))
      simp only [laws_sameInts.l0]
      rw [if_pos (by omega), if_pos (by omega), if_pos (by omega), wsucc (by omega)]
      simp only [if_true]
  unfold laws_sameInts.f
  simp only [if_true]
  exact key l.length 0 (by omega) (by omega)
theorem sameM_ev (l : List (List Int)) (hl : l.length ≤ 4611686018427387904) (hr : ∀ r ∈ l, r.length ≤ 4611686018427387904) : Ev (fun k => laws_sameMatrix.f k l l) true := by
  have key : ∀ (B A : List (List Int)), l = A ++ B → Ev (fun k => laws_sameMatrix.l0 k l l (A.length : Int)) true := by
    intro B
    induction B with
    | nil =>
      intro A h
      refine Ev.step (f := fun _ => some true) (fun k => ?_) (Ev.now _)
      simp only [laws_sameMatrix.l0]
      rw [if_neg (by rw [h]; simp)]
    | cons x B ih =>
      intro A h
      have e : l.length = A.length + (B.length + 1) := by rw [h]; simp
      have r : rd_L1 l (A.length : Int) = x := by rw [h]; exact rdL_mid A x B
      refine Ev.step (f := fun k => (laws_sameInts.f k x x).bind fun t => if t = true then laws_sameMatrix.l0 k l l ((A.length + 1 : Nat) : Int) else some false) (fun k => ?_) (Ev.bind (sameInts_ev x (hr x (by rw [h]; simp))) (Ev.pos rfl ?_))
      · simp only [laws_sameMatrix.l0]
        rw [if_pos (by omega), if_pos (by omega), if_pos (by omega), r, wsucc (by omega)]
      · have z := ih (A ++ [x]) (by simp [h])
        simpa using z
  unfold laws_sameMatrix.f
  simp only [if_true]
  exact key l [] rfl

/-! ### what is drawn -/
theorem and255_range (x : Int) : 0 ≤ Go.bits .and .i64 x 255 ∧ Go.bits .and .i64 x 255 ≤ 255 := by
  have e : ((BitVec.ofInt 64 x) &&& (BitVec.ofInt 64 255)).toNat = (x % 18446744073709551616).toNat % 256 := by
    rw [BitVec.toNat_and, BitVec.toNat_ofInt, show (BitVec.ofInt 64 255).toNat = 2 ^ 8 - 1 by decide, Nat.and_two_pow_sub_one_eq_mod]
    rfl
  have e2 : Go.bits .and .i64 x 255 = IntKind.i64.wrap (((BitVec.ofInt 64 x) &&& (BitVec.ofInt 64 255)).toNat : Int) := rfl
  rw [e2, e, IntKind.wrap_i64]
  omega
theorem byte_ex (l : List Int) (i h : Int) (hl : l.length ≤ 140737488351232) (hi : 0 ≤ i) : ∃ x i' h', spec_l01Byte.f l i h = some (x, i', h') ∧ 0 ≤ x ∧ x ≤ 255 ∧ 0 ≤ i' := by
  unfold spec_l01Byte.f
  by_cases c : i < (l.length : Int)
  · rw [if_pos c, if_pos hi]
    refine ⟨_, _, _, rfl, (and255_range _).1, (and255_range _).2, ?_⟩
    rw [w64 (by omega) (by omega)]
    omega
  · rw [if_neg c]
    exact ⟨_, _, _, rfl, (and255_range _).1, (and255_range _).2, hi⟩
theorem below_ex (l : List Int) (i h n : Int) (hl : l.length ≤ 140737488351232) (hi : 0 ≤ i) (hn : n ≤ 4294967296) : ∃ x i' h', spec_l01Below.f l i h n = some (x, i', h') ∧ 0 ≤ x ∧ (0 < n → x < n) ∧ (n ≤ 0 → x = 0) ∧ 0 ≤ i' := by
  unfold spec_l01Below.f
  by_cases c1 : n ≤ 0
  · rw [if_pos c1]
    exact ⟨_, _, _, rfl, by omega, by omega, fun _ => rfl, hi⟩
  · rw [if_neg c1]
    by_cases c2 : n ≤ 256
    · rw [if_pos c2]
      obtain ⟨x, i1, h1, e1, b0, b1, hi1⟩ := byte_ex l i h hl hi
      simp only [e1, Option.bind_some]
      rw [if_neg (by omega)]
      refine ⟨_, _, _, rfl, Int.tmod_nonneg _ b0, fun _ => ?_, by omega, hi1⟩
      exact Int.tmod_lt_of_pos _ (by omega)
    · rw [if_neg c2]
      obtain ⟨x, i1, h1, e1, x0, x1, hi1⟩ := byte_ex l i h hl hi
      obtain ⟨y, i2, h2, e2, y0, y1, hi2⟩ := byte_ex l i1 h1 hl hi1
      obtain ⟨z, i3, h3, e3, z0, z1, hi3⟩ := byte_ex l i2 h2 hl hi2
      obtain ⟨u, i4, h4, e4, u0, u1, hi4⟩ := byte_ex l i3 h3 hl hi3
      simp only [e1, e2, e3, e4, Option.bind_some]
      rw [if_neg (by omega)]
      refine ⟨_, _, _, rfl, Int.tmod_nonneg _ ?_, fun _ => Int.tmod_lt_of_pos _ (by omega), by omega, hi4⟩
      rw [w64 (x := x * 16777216) (by omega) (by omega), w64 (x := y * 65536) (by omega) (by omega), w64 (x := z * 256) (by omega) (by omega), w64 (x := x * 16777216 + y * 65536) (by omega) (by omega), w64 (x := x * 16777216 + y * 65536 + z * 256) (by omega) (by omega), w64 (by omega) (by omega)]
      omega
theorem new_ev (l : List Int) (hl : l.length ≤ 140737488351232) : ∃ h, Ev (fun k => spec_l01New.f k l) (l, 0, h) := by
  have key : ∀ d (i : Nat) (h : Int), l.length - i = d → ∃ h', Ev (fun k => spec_l01New.l0 k l h (i : Int)) (l, 0, h') := by
    intro d
    induction d with
    | zero =>
      intro i h hd
      exact ⟨h, Ev.step (f := fun _ => some (l, 0, h)) (fun k => by simp only [spec_l01New.l0]; rw [if_neg (by omega)]) (Ev.now _)⟩
    | succ d ih =>
      intro i h hd
      by_cases c : (i : Int) < 4000
      · obtain ⟨h', hh⟩ := ih (i + 1) _ (by omega)
        refine ⟨h', Ev.step (fun k => ?_) hh⟩
        simp only [spec_l01New.l0]
        rw [if_pos (by omega), if_pos c, if_pos (by omega), wsucc (by omega)]
      · exact ⟨h, Ev.step (f := fun _ => some (l, 0, h)) (fun k => by simp only [spec_l01New.l0]; rw [if_pos (by omega), if_neg c]) (Ev.now _)⟩
  obtain ⟨h', hh⟩ := key l.length 0 (wrap64 (36801 + (l.length : Int))) (by omega)
  exact ⟨h', hh⟩

/-! ### squares that are drawn -/
theorem pick5_ex (l : List Int) (i h x y : Int) (hl : l.length ≤ 140737488351232) (hi : 0 ≤ i) (hx : 0 ≤ x ∧ x ≤ 255) (hy : 0 ≤ y ∧ y ≤ 255) : ∃ r i' h', spec_l01PickInt.f l i h [0, 1, 2, x, y] = some (r, i', h') ∧ 0 ≤ r ∧ r ≤ 255 ∧ 0 ≤ i' := by
  obtain ⟨z, i1, h1, e1, z0, z1, _, hi1⟩ := below_ex l i h 5 hl hi (by omega)
  unfold spec_l01PickInt.f
  rw [show (([0, 1, 2, x, y] : List Int).length : Int) = 5 from rfl, e1, Option.bind_some, if_pos z0, if_pos (z1 (by omega))]
  refine ⟨_, _, _, rfl, ?_, ?_, hi1⟩
  all_goals
    have z2 := z1 (by omega)
    obtain ⟨n, rfl⟩ := Int.eq_ofNat_of_zero_le z0
    have hn : n = 0 ∨ n = 1 ∨ n = 2 ∨ n = 3 ∨ n = 4 := by omega
    rcases hn with rfl | rfl | rfl | rfl | rfl
  · exact Int.le_refl _
  · show (0 : Int) ≤ 1; omega
  · show (0 : Int) ≤ 2; omega
  · exact hx.1
  · exact hy.1
  · show (0 : Int) ≤ 255; omega
  · show (1 : Int) ≤ 255; omega
  · show (2 : Int) ≤ 255; omega
  · exact hx.2
  · exact hy.2
def byteRow (n : Nat) (r : List Int) : Prop := r.length = n ∧ ∀ x ∈ r, 0 ≤ x ∧ x ≤ 255
theorem square_ev (l : List Int) (n : Nat) (hl : l.length ≤ 140737488351232) (h1 : 1 ≤ n) (h8 : n ≤ 8) (i h : Int) (hi : 0 ≤ i) :
    ∃ m i' h', Ev (fun k => spec_l06Square.f k l i h (n : Int)) (m, i', h') ∧ 0 ≤ i' ∧ m.length = n ∧ ∀ r ∈ m, byteRow n r := by
  have inner : ∀ d (j : Nat) (row : List Int) (i h : Int), n - j = d → j ≤ n → 0 ≤ i → row.length = j → (∀ x ∈ row, 0 ≤ x ∧ x ≤ 255) → ∀ (out : List (List Int)) (c : Nat), out.length = c → c < n →
      ∃ r i' h', byteRow n r ∧ 0 ≤ i' ∧ ∀ v, Ev (fun k => spec_l06Square.l0 k (n : Int) (out ++ [r]) ((c + 1 : Nat) : Int) l i' h') v → Ev (fun k => spec_l06Square.l1 k (n : Int) out (c : Int) row (j : Int) l i h) v := by
    intro d
    induction d with
    | zero =>
      intro j row i h hd hj hi hr hb out c ho hc
      refine ⟨row, i, h, ⟨by omega, hb⟩, hi, fun v hv => Ev.step (fun k => ?_) hv⟩
      simp only [spec_l06Square.l1]
      rw [if_neg (by omega), if_pos (by omega), wsucc (by omega)]
    | succ d ih =>
      intro j row i h hd hj hi hr hb out c ho hc
      obtain ⟨x1, i1, g1, e1, x10, x11, _, hi1⟩ := below_ex l i h 256 hl hi (by omega)
      obtain ⟨x2, i2, g2, e2, x20, x21, _, hi2⟩ := below_ex l i1 g1 256 hl hi1 (by omega)
      obtain ⟨y, i3, g3, e3, y0, y1, hi3⟩ := pick5_ex l i2 g2 x1 x2 hl hi2 ⟨x10, by have := x11 (by omega); omega⟩ ⟨x20, by have := x21 (by omega); omega⟩
      obtain ⟨r, i', h', hr1, hi', hv⟩ := ih (j + 1) (row ++ [y]) i3 g3 (by omega) (by omega) hi3 (by simp [hr]) (fun x hx => by
        rcases List.mem_append.mp hx with hx | hx
        · exact hb x hx
        · obtain rfl := List.mem_singleton.mp hx
          exact ⟨y0, y1⟩) out c ho hc
      refine ⟨r, i', h', hr1, hi', fun v hw => Ev.step (fun k => ?_) (hv v hw)⟩
      simp only [spec_l06Square.l1]
      rw [if_pos (by omega), e1, Option.bind_some, e2, Option.bind_some, e3, Option.bind_some, if_pos (by omega), wsucc (by omega)]
  have outer : ∀ d (c : Nat) (out : List (List Int)) (i h : Int), n - c = d → c ≤ n → 0 ≤ i → out.length = c → (∀ r ∈ out, byteRow n r) →
      ∃ m i' h', Ev (fun k => spec_l06Square.l0 k (n : Int) out (c : Int) l i h) (m, i', h') ∧ 0 ≤ i' ∧ m.length = n ∧ ∀ r ∈ m, byteRow n r := by
    intro d
    induction d with
    | zero =>
      intro c out i h hd hc hi ho hb
      refine ⟨out, i, h, Ev.step (f := fun _ => some (out, i, h)) (fun k => ?_) (Ev.now _), hi, by omega, hb⟩
      simp only [spec_l06Square.l0]
      rw [if_neg (by omega)]
    | succ d ih =>
      intro c out i h hd hc hi ho hb
      obtain ⟨r, i1, g1, hr, hi1, hv⟩ := inner n 0 [] i h (by omega) (by omega) hi rfl (by simp) out c ho (by omega)
      obtain ⟨m, i', h', hm, hi', hl', hb'⟩ := ih (c + 1) (out ++ [r]) i1 g1 (by omega) (by omega) hi1 (by simp [ho]) (fun x hx => by
        rcases List.mem_append.mp hx with hx | hx
        · exact hb x hx
        · obtain rfl := List.mem_singleton.mp hx
          exact hr)
      refine ⟨m, i', h', Ev.step (fun k => ?_) (hv _ hm), hi', hl', hb'⟩
      simp only [spec_l06Square.l0]
      rw [if_pos (by omega)]
      rfl
  exact outer n 0 [] i h (by omega) (by omega) hi rfl (by simp)
theorem byte_square {n : Nat} {m : List (List Int)} (h1 : 1 ≤ n) (h8 : n ≤ 8) (hl : m.length = n) (hb : ∀ r ∈ m, byteRow n r) : ∃ f : Nat → Nat → Nat, m = mk n n f ∧ ∀ i, i < n → ∀ j, j < n → f i j < 256 := by
  have hh : (m.headD []).length = n := by
    cases m with
    | nil => simp at hl; omega
    | cons x m => exact (hb x (by simp)).1
  have ok : okM m = true := by
    unfold okM
    rw [hl, hh]
    have e : in18 n = true := decide_eq_true ⟨h1, h8⟩
    rw [e, Bool.true_and, Bool.true_and, List.all_eq_true]
    intro x hx
    unfold okR
    rw [Bool.and_eq_true]
    refine ⟨decide_eq_true (hb x hx).1, List.all_eq_true.mpr (fun y hy => decide_eq_true ((hb x hx).2 y hy))⟩
  have e := eq_mk ok
  rw [hl, hh] at e
  exact ⟨ent m, e, fun i hi j hj => (rd_ent ok (by omega) (by omega)).2⟩
theorem drawSquares_ev (l : List Int) (hl : l.length ≤ 140737488351232) : ∃ (n : Nat) (f g h : Nat → Nat → Nat), 1 ≤ n ∧ n ≤ 3 ∧ Ev (fun k => spec_DrawSquares.f k l) (mk n n f, mk n n g, mk n n h) ∧
    (∀ i, i < n → ∀ j, j < n → f i j < 256) ∧ (∀ i, i < n → ∀ j, j < n → g i j < 256) ∧ (∀ i, i < n → ∀ j, j < n → h i j < 256) := by
  obtain ⟨s, hn⟩ := new_ev l hl
  obtain ⟨x, i1, s1, e1, x0, x1, _, hi1⟩ := below_ex l 0 s 3 hl (by omega) (by omega)
  obtain ⟨N, rfl⟩ := Int.eq_ofNat_of_zero_le x0
  have x1 := x1 (by omega)
  obtain ⟨a, i2, s2, e2, hi2, la, ba⟩ := square_ev l (1 + N) hl (by omega) (by omega) i1 s1 hi1
  obtain ⟨b, i3, s3, e3, hi3, lb, bb⟩ := square_ev l (1 + N) hl (by omega) (by omega) i2 s2 hi2
  obtain ⟨c, i4, s4, e4, hi4, lc, bc⟩ := square_ev l (1 + N) hl (by omega) (by omega) i3 s3 hi3
  obtain ⟨f, rfl, hf⟩ := byte_square (by omega) (by omega) la ba
  obtain ⟨g, rfl, hg⟩ := byte_square (by omega) (by omega) lb bb
  obtain ⟨h, rfl, hh⟩ := byte_square (by omega) (by omega) lc bc
  refine ⟨1 + N, f, g, h, by omega, by omega, ?_, hf, hg, hh⟩
  have w : wrap64 (1 + (N : Int)) = ((1 + N : Nat) : Int) := by rw [w64 (by omega) (by omega)]; rfl
  unfold spec_DrawSquares.f
  refine Ev.bind hn (Ev.some_bind e1 ?_)
  simp only [w]
  exact Ev.bind e2 (Ev.bind e3 (Ev.bind e4 (Ev.now _)))

theorem mk_rows {r c : Nat} {f : Nat → Nat → Nat} {N : Nat} (h : c ≤ N) : ∀ x ∈ mk r c f, x.length ≤ N := by
  intro x hx
  unfold mk at hx
  obtain ⟨i, _, rfl⟩ := List.mem_map.mp hx
  simp
  exact h
theorem FnMatrices : laws_FnMatrices.Pure := by
  intro l _ hl _
  have hl' : l.length ≤ 140737488351232 := by omega
  refine Ev.rounds ?_
  unfold laws_FnMatrices.f
  refine Ev.some_bind (x := decide ((l.length : Int) > 1048576)) rfl ?_
  by_cases hb : (l.length : Int) > 1048576
  · exact Ev.pos (by simpa using hb) (Ev.now _)
  · refine Ev.neg (by simpa using hb) ?_
    obtain ⟨n, f, g, h, n1, n3, hd, hf, hg, hh⟩ := drawSquares_ev l hl'
    have H : ∀ {r c : Nat} {f : Nat → Nat → Nat}, r ≤ 8 → c ≤ 8 → (mk r c f).length ≤ 1099511627776 ∧ ∀ x ∈ mk r c f, x.length ≤ 1099511627776 := fun hr hc => ⟨by rw [mk_length]; omega, mk_rows (by omega)⟩
    have mi : ∀ {r n c : Nat} {f g : Nat → Nat → Nat}, r ≤ 8 → n ≤ 8 → c ≤ 8 → Ev (fun k => impl_MulM.f k (mk r n f) (mk n c g)) (mulR (mk r n f) (mk n c g)) := fun hr hn hc => impl_MulM_ev _ _ (H hr hn).1 (H hn hc).1 (H hr hn).2 (H hn hc).2
    have sm : ∀ {r c : Nat} {f : Nat → Nat → Nat}, r ≤ 8 → c ≤ 8 → Ev (fun k => laws_sameMatrix.f k (mk r c f) (mk r c f)) true := fun hr hc => sameM_ev _ (by rw [mk_length]; omega) (mk_rows (by omega))
    have N : 1 ≤ n ∧ n ≤ 8 := ⟨n1, by omega⟩
    have P1 := mulR_mk N N N hf hg
    have P2 := mulR_mk N N N hg hh
    have B1 : ∀ i, i < n → ∀ j, j < n → xs n (fun k => Gf.mul (f i k) (g k j)) < 256 := fun i hi j hj => mul_lt_of (hf i hi)
    have B2 : ∀ i, i < n → ∀ j, j < n → xs n (fun k => Gf.mul (g i k) (h k j)) < 256 := fun i hi j hj => mul_lt_of (hg i hi)
    have P3 := mulR_mk N N N B1 hh
    have P4 := mulR_mk N N N hf B2
    have A := assoc_mk N N N N hf hg hh
    rw [P1, P2, P3, P4] at A
    have O : oneR (((mk n n f).length : Nat) : Int) = mk n n idf := by unfold oneR; rw [mk_length, if_pos (by omega), Int.toNat_natCast]
    have o1 := impl_OneM_ev (((mk n n f).length : Nat) : Int)
    rw [O] at o1
    have m1 := mi (f := f) (g := g) N.2 N.2 N.2
    rw [P1] at m1
    have m2 := mi (f := g) (g := h) N.2 N.2 N.2
    rw [P2] at m2
    have m3 := mi (f := fun i j => xs n (fun k => Gf.mul (f i k) (g k j))) (g := h) N.2 N.2 N.2
    rw [P3] at m3
    have m4 := mi (f := f) (g := fun i j => xs n (fun k => Gf.mul (g i k) (h k j))) N.2 N.2 N.2
    rw [P4, ← A] at m4
    have m5 := mi (f := f) (g := idf) N.2 N.2 N.2
    rw [mul_one_mk N N hf] at m5
    have m6 := mi (f := idf) (g := f) N.2 N.2 N.2
    rw [one_mul_mk N N hf] at m6
    have m7 := spec_MulM_ev (mk n n f) (mk n n g) (H N.2 N.2).1 (H N.2 N.2).1 (H N.2 N.2).2 (H N.2 N.2).2
    rw [P1] at m7
    have mo := impl_MatrixOk_ev (mk n n f) (by rw [mk_length]; omega) (mk_rows (by omega))
    rw [okM_mk N.1 N.2 N.1 N.2 hf] at mo
    have o0 := impl_OneM_ev 0
    have o8 := impl_OneM_ev 8
    rw [show oneR 0 = [] by unfold oneR; rw [if_neg (by omega)]] at o0
    rw [show oneR 8 = mk 8 8 idf by unfold oneR; rw [if_pos (by omega)]; rfl] at o8
    have m8 : Ev (fun k => impl_MulM.f k (mk n n f) (mk 8 8 idf)) [] := by
      have z := impl_MulM_ev (mk n n f) (mk 8 8 idf) (H N.2 N.2).1 (H (Nat.le_refl _) (Nat.le_refl _)).1 (H N.2 N.2).2 (H (Nat.le_refl _) (Nat.le_refl _)).2
      rw [show mulR (mk n n f) (mk 8 8 idf) = [] by unfold mulR; rw [if_neg (fun e => by have e2 := e.2.2; rw [mk_head n n f (by omega), mk_length] at e2; omega)]] at z
      exact z
    refine Ev.bind hd (Ev.bind o1 (Ev.bind m1 (Ev.bind m3 (Ev.bind m2 (Ev.bind m4 (Ev.bind mo (Ev.pos rfl (Ev.bind (sm N.2 N.2) (Ev.pos rfl ?_)))))))))
    refine Ev.pos (by rw [mk_length, mk_length]) (Ev.bind m5 (Ev.bind (sm N.2 N.2) (Ev.pos rfl (Ev.bind m6 (Ev.bind (sm N.2 N.2) (Ev.pos rfl (Ev.bind m7 (Ev.bind (sm N.2 N.2) (Ev.pos rfl ?_)))))))))
    exact Ev.bind o0 (Ev.pos rfl (Ev.bind o8 (Ev.bind m8 (Ev.now _))))


end Go.Proofs.Ythjdnjmlamfdbaa.Pure
