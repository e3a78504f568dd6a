/- The program's CodeOf and the reference's CodeOf return the same, for every number; what is returned is shared with nothing. -/
import Derived.Test.YtdllmlnigihpcaaXFnExactCodeOfx
import Derived.Test.YtdllmlnigihpcaaWf
set_option linter.unusedVariables false
set_option linter.unusedSimpArgs false
namespace Go.Proofs.Ytdllmlnigihpcaa.Pure
open Go.RowKit Go.Proofs.Ytdllmlnigihpcaa.XFnExactCodeOf Go.Proofs.YtdllmlnigihpcaaW.PrintWords Go.Proofs.YtdllmlnigihpcaaW.PrintLast

/-! ### small words -/
theorem w64 {x : Int} (h0 : -9223372036854775808 ≤ x) (h1 : x ≤ 9223372036854775807) : wrap64 x = x := by
  unfold wrap64
  omega
theorem wf64 {x : Int} (h : (Lit.int .i64 x).wf = true) : -9223372036854775808 ≤ x ∧ x ≤ 9223372036854775807 := by
  simp [Lit.wf, IntKind.min, IntKind.max, IntKind.signed, IntKind.bits] at h
  omega
theorem wfu32 {x : Int} (h : (Lit.int .u32 x).wf = true) : 0 ≤ x ∧ x ≤ 4294967295 := by
  simp [Lit.wf, IntKind.min, IntKind.max, IntKind.signed, IntKind.bits] at h
  omega
theorem wfu8 {x : Int} (h : (Lit.int .u8 x).wf = true) : 0 ≤ x ∧ x ≤ 255 := by
  simp [Lit.wf, IntKind.min, IntKind.max, IntKind.signed, IntKind.bits] at h
  omega
theorem wsucc {n : Nat} (h : n ≤ 4611686018427387904) : wrap64 ((n : Int) + 1) = ((n + 1 : Nat) : Int) := by
  rw [w64 (by omega) (by omega)]
  rfl
theorem wadd {a b : Nat} (h : a + b ≤ 4611686018427387904) : wrap64 ((a : Int) + (b : Int)) = ((a + b : Nat) : Int) := by
  rw [w64 (by omega) (by omega)]
  rfl
theorem wnat {n : Nat} (h : n ≤ 4611686018427387904) : wrap64 (n : Int) = (n : Int) := w64 (by omega) (by omega)
theorem Ev.some_bind {α β : Type} {a : Option α} {x : α} (h : a = some x) {f : Nat → α → Option β} {r : β} (k : Ev (fun n => f n x) r) : Ev (fun n => a.bind (f n)) r := by
  subst h
  exact k
theorem Ev.pos {α : Type} {p : Prop} [Decidable p] (h : p) {f g : Nat → Option α} {r : α} (k : Ev f r) : Ev (fun n => if p then f n else g n) r :=
  Ev.congr (fun _ => if_pos h) k
theorem Ev.neg {α : Type} {p : Prop} [Decidable p] (h : ¬ p) {f g : Nat → Option α} {r : α} (k : Ev g r) : Ev (fun n => if p then f n else g n) r :=
  Ev.congr (fun _ => if_neg h) k
theorem tmod_nat {x : Int} (h0 : 0 ≤ x) (N : Nat) : ∃ c : Nat, Int.tmod x ((N + 1 : Nat) : Int) = (c : Int) ∧ c ≤ N := by
  obtain ⟨c, hc⟩ := Int.eq_ofNat_of_zero_le (Int.tmod_nonneg ((N + 1 : Nat) : Int) h0)
  have hlt := Int.tmod_lt_of_pos x (show (0 : Int) < ((N + 1 : Nat) : Int) by omega)
  rw [hc] at hlt
  exact ⟨c, hc, by omega⟩

theorem spec_l01In_eq (a l h : Int) : spec_l01In.f a l h = some (decide (l ≤ a ∧ a ≤ h)) := by
  unfold spec_l01In.f
  by_cases h1 : l ≤ a
  · rw [if_pos h1]; simp [h1]
  · rw [if_neg h1]; simp [h1]

theorem impl_within_eq (a l h : Int) : impl_within.f a l h = some (decide (l ≤ a ∧ a ≤ h)) := by
  unfold impl_within.f
  by_cases h1 : l ≤ a
  · rw [if_pos h1]; simp [h1]
  · rw [if_neg h1]; simp [h1]

/-! ### lists of lists of whole numbers: read -/
theorem rdI_nat {l : List Int} {i : Nat} (h : i < l.length) : rd l (i : Int) = l[i] := by
  unfold rd
  rw [Int.toNat_natCast, List.getD_eq_getElem?_getD, List.getElem?_eq_getElem h]
  rfl
theorem rdL_nat {l : List (List Int)} {i : Nat} (h : i < l.length) : rd_L1 l (i : Int) = l[i] := by
  unfold rd_L1
  rw [Int.toNat_natCast, List.getD_eq_getElem?_getD, List.getElem?_eq_getElem h]
  rfl
theorem rdI_mid (A : List Int) (x : Int) (B : List Int) : rd (A ++ x :: B) (A.length : Int) = x := by simp [rd]
theorem rdL_mid (A : List (List Int)) (x : List Int) (B : List (List Int)) : rd_L1 (A ++ x :: B) (A.length : Int) = x := by simp [rd_L1]
theorem set_midI {α : Type} (A : List α) (x v : α) (B : List α) : (A ++ x :: B).set A.length v = A ++ v :: B := by simp

/-! ### lists of lists of whole numbers, compared -/
theorem eqIntS_ev (l : List Int) (hl : l.length ≤ 4611686018427387904) : Ev (fun k => laws_eqIntS.f k l l) true := by
  have key : ∀ d (i : Nat), i ≤ l.length → l.length - i = d → Ev (fun k => laws_eqIntS.l0 k l l (i : Int)) true := by
    intro d
    induction d with
    | zero =>
      intro i hi hd
      exact Ev.step (f := fun _ => some true) (fun k => by simp only [laws_eqIntS.l0]; rw [if_neg (by omega)]) (Ev.now _)
    | succ d ih =>
      intro i hi hd
      refine Ev.step (fun k => ?_) (ih (i + 1) (by omega) (by omega))
      simp only [laws_eqIntS.l0]
      rw [if_pos (by omega), if_pos (by omega), if_pos (by omega), wsucc (by omega)]
      simp only [if_true]
  unfold laws_eqIntS.f
  simp only [if_true]
  exact key l.length 0 (by omega) (by omega)
theorem eqIntSS_ev (l : List (List Int)) (hl : l.length ≤ 4611686018427387904) (hr : ∀ r ∈ l, r.length ≤ 4611686018427387904) : Ev (fun k => laws_eqIntSS.f k l l) true := by
  have key : ∀ (B A : List (List Int)), l = A ++ B → Ev (fun k => laws_eqIntSS.l0 k l l (A.length : Int)) true := by
    intro B
    induction B with
    | nil =>
      intro A h
      refine Ev.step (f := fun _ => some true) (fun k => ?_) (Ev.now _)
      simp only [laws_eqIntSS.l0]
      rw [if_neg (by rw [h]; simp)]
    | cons x B ih =>
      intro A h
      have e : l.length = A.length + (B.length + 1) := by rw [h]; simp
      have r : rd_L1 l (A.length : Int) = x := by rw [h]; exact rdL_mid A x B
      refine Ev.step (f := fun k => (laws_eqIntS.f k x x).bind fun t => if t = true then laws_eqIntSS.l0 k l l ((A.length + 1 : Nat) : Int) else some false) (fun k => ?_) (Ev.bind (eqIntS_ev x (hr x (by rw [h]; simp))) (Ev.pos rfl ?_))
      · simp only [laws_eqIntSS.l0]
        rw [if_pos (by omega), if_pos (by omega), if_pos (by omega), r, wsucc (by omega)]
      · have z := ih (A ++ [x]) (by simp [h])
        simpa using z
  unfold laws_eqIntSS.f
  simp only [if_true]
  exact key l [] rfl

/-! ### what a right matrix is -/
def inB (x : Int) : Bool := decide (0 ≤ x ∧ x ≤ 255)
def okR (n : Nat) (r : List Int) : Bool := decide (r.length = n) && r.all inB
def in18 (n : Nat) : Bool := decide (1 ≤ n ∧ n ≤ 8)
def okM (m : List (List Int)) : Bool := in18 m.length && in18 (m.headD []).length && m.all (okR (m.headD []).length)
theorem in18_int (n : Nat) : decide ((1 : Int) ≤ (n : Int) ∧ (n : Int) ≤ 8) = in18 n := by
  unfold in18
  by_cases h : 1 ≤ n ∧ n ≤ 8
  · rw [decide_eq_true h, decide_eq_true (by omega)]
  · rw [decide_eq_false h, decide_eq_false (by omega)]
theorem rdL_zero (m : List (List Int)) : rd_L1 m 0 = m.headD [] := by
  cases m <;> rfl

/- Plain law: the field of bytes (polynomials over bits modulo 285), over natural numbers. -/
namespace Gf

/-- One step: times x. -/
def xt (a : Nat) : Nat := if 255 < 2 * a then (2 * a) ^^^ 285 else 2 * a

/-- The product, bit by bit of b. -/
def gm : Nat → Nat → Nat → Nat
  | 0, _, _ => 0
  | n + 1, a, b => (if b % 2 = 1 then a else 0) ^^^ gm n (xt a) (b / 2)

def mul (a b : Nat) : Nat := gm 8 a b

theorem xor_mod2 (a b : Nat) : (a ^^^ b) % 2 = (a % 2 + b % 2) % 2 := by
  have h := Nat.testBit_xor (x := a) (y := b) (i := 0)
  simp only [Nat.testBit_zero] at h
  have hX : (a ^^^ b) % 2 < 2 := Nat.mod_lt _ (by omega)
  have h1 : a % 2 = 0 ∨ a % 2 = 1 := by omega
  have h2 : b % 2 = 0 ∨ b % 2 = 1 := by omega
  generalize (a ^^^ b) % 2 = X at h hX ⊢
  rcases h1 with h1 | h1 <;> rcases h2 with h2 | h2 <;> rw [h1, h2] at h ⊢ <;> simp at h <;> omega

theorem xor_div2 (a b : Nat) : (a ^^^ b) / 2 = (a / 2) ^^^ (b / 2) := Nat.xor_div_two

theorem xor_lt {a b n : Nat} (ha : a < 2 ^ n) (hb : b < 2 ^ n) : a ^^^ b < 2 ^ n := Nat.xor_lt_two_pow ha hb

theorem xt_lt {a : Nat} (h : a < 256) : xt a < 256 := by
  have : ∀ a : Fin 256, xt a.val < 256 := by decide +kernel
  exact this ⟨a, h⟩

theorem two_mul_xor (a b : Nat) : 2 * (a ^^^ b) = (2 * a) ^^^ (2 * b) := by
  have h := Nat.shiftLeft_xor_distrib (a := a) (b := b) (i := 1)
  simp only [Nat.shiftLeft_eq, Nat.pow_one] at h
  rw [Nat.mul_comm 2, Nat.mul_comm 2, Nat.mul_comm 2]
  exact h

theorem top_xor {a b : Nat} (ha : a < 256) (hb : b < 256) : (a ^^^ b) / 128 = (a / 128 + b / 128) % 2 := by
  have h : ((a ^^^ b) >>> 7) = (a >>> 7) ^^^ (b >>> 7) := Nat.shiftRight_xor_distrib
  simp only [Nat.shiftRight_eq_div_pow] at h
  have h1 : a / 2 ^ 7 < 2 := by omega
  have h2 : b / 2 ^ 7 < 2 := by omega
  have h3 := xor_mod2 (a / 2 ^ 7) (b / 2 ^ 7)
  have h4 : (a / 2 ^ 7) ^^^ (b / 2 ^ 7) < 2 ^ 1 := xor_lt (by omega) (by omega)
  omega

theorem xt_eq {a : Nat} (h : a < 256) : xt a = (2 * a) ^^^ (if a / 128 = 1 then 285 else 0) := by
  unfold xt
  by_cases h1 : 255 < 2 * a
  · rw [if_pos h1, if_pos (by omega)]
  · rw [if_neg h1, if_neg (by omega), Nat.xor_zero]

theorem xt_xor {a b : Nat} (ha : a < 256) (hb : b < 256) : xt (a ^^^ b) = xt a ^^^ xt b := by
  have hab : a ^^^ b < 256 := xor_lt (n := 8) ha hb
  rw [xt_eq ha, xt_eq hb, xt_eq hab, two_mul_xor, top_xor ha hb]
  have h1 : a / 128 = 0 ∨ a / 128 = 1 := by omega
  have h2 : b / 128 = 0 ∨ b / 128 = 1 := by omega
  rcases h1 with h1 | h1 <;> rcases h2 with h2 | h2 <;> rw [h1, h2] <;> simp
  · ac_rfl
  · ac_rfl
  · rw [show (2 * a ^^^ 285) ^^^ (2 * b ^^^ 285) = (285 ^^^ 285) ^^^ (2 * a ^^^ 2 * b) by ac_rfl, Nat.xor_self, Nat.zero_xor]

theorem gm_lt (n : Nat) : ∀ {a : Nat} (b : Nat), a < 256 → gm n a b < 256 := by
  induction n with
  | zero => intro a b _; simp [gm]
  | succ n ih =>
    intro a b h
    unfold gm
    refine xor_lt (n := 8) ?_ (ih _ (xt_lt h))
    split <;> omega

theorem gm_xor_left (n : Nat) : ∀ {a c : Nat} (b : Nat), a < 256 → c < 256 → gm n (a ^^^ c) b = gm n a b ^^^ gm n c b := by
  induction n with
  | zero => intro a c b _ _; simp [gm]
  | succ n ih =>
    intro a c b ha hc
    simp only [gm]
    rw [xt_xor ha hc, ih _ (xt_lt ha) (xt_lt hc)]
    by_cases h : b % 2 = 1
    · simp only [if_pos h]; ac_rfl
    · simp only [if_neg h, Nat.zero_xor]

theorem gm_xor_right (n : Nat) : ∀ (a b c : Nat), gm n a (b ^^^ c) = gm n a b ^^^ gm n a c := by
  induction n with
  | zero => intro a b c; simp [gm]
  | succ n ih =>
    intro a b c
    simp only [gm]
    rw [xor_div2, ih, xor_mod2]
    have h1 : b % 2 = 0 ∨ b % 2 = 1 := by omega
    have h2 : c % 2 = 0 ∨ c % 2 = 1 := by omega
    rcases h1 with h1 | h1 <;> rcases h2 with h2 | h2 <;> rw [h1, h2] <;> simp
    · rw [← Nat.xor_assoc, Nat.xor_comm a, Nat.xor_assoc]
    · rw [Nat.xor_assoc]
    · have : a ^^^ gm n (xt a) (b / 2) ^^^ (a ^^^ gm n (xt a) (c / 2)) = (a ^^^ a) ^^^ (gm n (xt a) (b / 2) ^^^ gm n (xt a) (c / 2)) := by ac_rfl
      rw [this, Nat.xor_self, Nat.zero_xor]

theorem mul_lt {a : Nat} (b : Nat) (h : a < 256) : mul a b < 256 := gm_lt 8 b h
theorem mul_xor_left {a c : Nat} (b : Nat) (ha : a < 256) (hc : c < 256) : mul (a ^^^ c) b = mul a b ^^^ mul c b := gm_xor_left 8 b ha hc
theorem mul_xor_right (a b c : Nat) : mul a (b ^^^ c) = mul a b ^^^ mul a c := gm_xor_right 8 a b c

/-- Two functions that go through sums are one, if they are at the powers of two. -/
theorem add_ext (f g : Nat → Nat) (h0 : f 0 = g 0) (hf : ∀ a b, a < 256 → b < 256 → f (a ^^^ b) = f a ^^^ f b) (hg : ∀ a b, a < 256 → b < 256 → g (a ^^^ b) = g a ^^^ g b)
    (h : ∀ i, i < 8 → f (2 ^ i) = g (2 ^ i)) : ∀ a, a < 256 → f a = g a := by
  have key : ∀ n, n ≤ 8 → ∀ a, a < 2 ^ n → f a = g a := by
    intro n
    induction n with
    | zero => intro _ a ha; have : a = 0 := by omega
              rw [this, h0]
    | succ n ih =>
      intro hn a ha
      by_cases hlt : a < 2 ^ n
      · exact ih (by omega) a hlt
      · have h256 : 2 ^ (n + 1) ≤ 2 ^ 8 := Nat.pow_le_pow_right (by omega) hn
        have hs : 2 ^ (n + 1) = 2 * 2 ^ n := by rw [Nat.pow_succ]; omega
        have hr : a - 2 ^ n < 2 ^ n := by omega
        have he : a = 2 ^ n ^^^ (a - 2 ^ n) := by
          have h1 : 2 ^ n + (a - 2 ^ n) = 2 ^ n ^^^ (a - 2 ^ n) := by
            have := Nat.two_pow_add_eq_or_of_lt (i := n) (b := a - 2 ^ n) hr 1
            have h2 : (2 ^ n ||| (a - 2 ^ n)) = 2 ^ n ^^^ (a - 2 ^ n) := by
              apply Nat.eq_of_testBit_eq
              intro j
              rw [Nat.testBit_or, Nat.testBit_xor, Nat.testBit_two_pow]
              by_cases hj : n = j
              · subst hj
                rw [Nat.testBit_lt_two_pow hr]
                simp
              · simp [hj]
            rw [← h2]
            simpa using this
          omega
        rw [he, hf _ _ (by omega) (by omega), hg _ _ (by omega) (by omega), h n (by omega), ih (by omega) _ hr]
  intro a ha
  exact key 8 (Nat.le_refl _) a (by simpa using ha)

theorem mul_zero_right (a : Nat) : mul a 0 = 0 := by
  have : ∀ n a, gm n a 0 = 0 := by
    intro n
    induction n with
    | zero => intro a; rfl
    | succ n ih => intro a; simp [gm, ih]
  exact this 8 a
theorem mul_zero_left (b : Nat) : mul 0 b = 0 := by
  have : ∀ n b, gm n 0 b = 0 := by
    intro n
    induction n with
    | zero => intro b; rfl
    | succ n ih => intro b; simp [gm, xt, ih]
  exact this 8 b

theorem pow2_lt {i : Nat} (h : i < 8) : 2 ^ i < 256 := by
  have : 2 ^ i < 2 ^ 8 := Nat.pow_lt_pow_right (by omega) h
  omega

theorem mul_comm {a b : Nat} (ha : a < 256) (hb : b < 256) : mul a b = mul b a := by
  have base : ∀ i : Fin 8, ∀ j : Fin 8, mul (2 ^ i.val) (2 ^ j.val) = mul (2 ^ j.val) (2 ^ i.val) := by decide +kernel
  have step : ∀ i, i < 8 → ∀ b, b < 256 → mul (2 ^ i) b = mul b (2 ^ i) := by
    intro i hi
    refine add_ext (fun b => mul (2 ^ i) b) (fun b => mul b (2 ^ i)) ?_ ?_ ?_ ?_
    · show mul _ _ = mul _ _
      rw [mul_zero_right, mul_zero_left]
    · intro a b _ _; exact mul_xor_right _ _ _
    · intro a b ha hb; exact mul_xor_left _ ha hb
    · intro j hj; exact base ⟨i, hi⟩ ⟨j, hj⟩
  refine add_ext (fun a => mul a b) (fun a => mul b a) ?_ ?_ ?_ ?_ a ha
  · show mul _ _ = mul _ _
    rw [mul_zero_right, mul_zero_left]
  · intro a c ha hc; exact mul_xor_left _ ha hc
  · intro a c _ _; exact mul_xor_right _ _ _
  · intro i hi; exact step i hi b hb

theorem mul_assoc {a b c : Nat} (ha : a < 256) (hb : b < 256) (hc : c < 256) : mul (mul a b) c = mul a (mul b c) := by
  have base : ∀ i j k : Fin 8, mul (mul (2 ^ i.val) (2 ^ j.val)) (2 ^ k.val) = mul (2 ^ i.val) (mul (2 ^ j.val) (2 ^ k.val)) := by decide +kernel
  have s1 : ∀ i, i < 8 → ∀ j, j < 8 → ∀ c, c < 256 → mul (mul (2 ^ i) (2 ^ j)) c = mul (2 ^ i) (mul (2 ^ j) c) := by
    intro i hi j hj
    refine add_ext (fun c => mul (mul (2 ^ i) (2 ^ j)) c) (fun c => mul (2 ^ i) (mul (2 ^ j) c)) ?_ ?_ ?_ ?_
    · show mul _ _ = mul _ _
      rw [mul_zero_right, mul_zero_right, mul_zero_right]
    · intro a b _ _; exact mul_xor_right _ _ _
    · intro a b _ _
      show mul _ (mul _ _) = mul _ (mul _ _) ^^^ mul _ (mul _ _)
      rw [mul_xor_right, mul_xor_right]
    · intro k hk; exact base ⟨i, hi⟩ ⟨j, hj⟩ ⟨k, hk⟩
  have s2 : ∀ i, i < 8 → ∀ b, b < 256 → mul (mul (2 ^ i) b) c = mul (2 ^ i) (mul b c) := by
    intro i hi
    refine add_ext (fun b => mul (mul (2 ^ i) b) c) (fun b => mul (2 ^ i) (mul b c)) ?_ ?_ ?_ ?_
    · show mul (mul _ _) _ = mul _ (mul _ _)
      rw [mul_zero_right, mul_zero_left, mul_zero_right]
    · intro a b ha hb
      show mul (mul _ _) _ = mul (mul _ _) _ ^^^ mul (mul _ _) _
      rw [mul_xor_right, mul_xor_left _ (mul_lt _ (pow2_lt hi)) (mul_lt _ (pow2_lt hi))]
    · intro a b ha hb
      show mul _ (mul _ _) = mul _ (mul _ _) ^^^ mul _ (mul _ _)
      rw [mul_xor_left _ ha hb, mul_xor_right]
    · intro j hj; exact s1 i hi j hj c hc
  refine add_ext (fun a => mul (mul a b) c) (fun a => mul a (mul b c)) ?_ ?_ ?_ ?_ a ha
  · show mul (mul _ _) _ = mul _ (mul _ _)
    rw [mul_zero_left, mul_zero_left, mul_zero_left]
  · intro x y hx hy
    show mul (mul _ _) _ = mul (mul _ _) _ ^^^ mul (mul _ _) _
    rw [mul_xor_left _ hx hy, mul_xor_left _ (mul_lt _ hx) (mul_lt _ hy)]
  · intro x y hx hy; exact mul_xor_left _ hx hy
  · intro i hi; exact s2 i hi b hb

theorem mul_one_right {a : Nat} : mul a 1 = a := by
  unfold mul
  simp only [gm]
  simp

theorem mul_one_left {a : Nat} (h : a < 256) : mul 1 a = a := by
  rw [mul_comm (by omega) h, mul_one_right]

def pow (a : Nat) : Nat → Nat
  | 0 => 1
  | n + 1 => mul (pow a n) a

theorem pow_lt {a : Nat} (h : a < 256) : ∀ n, pow a n < 256
  | 0 => by simp [pow]
  | n + 1 => mul_lt _ (pow_lt h n)

theorem pow_add {a : Nat} (h : a < 256) (n m : Nat) : pow a (n + m) = mul (pow a n) (pow a m) := by
  induction m with
  | zero => simp [pow, mul_one_right]
  | succ m ih =>
    show mul (pow a (n + m)) a = mul (pow a n) (mul (pow a m) a)
    rw [ih, mul_assoc (pow_lt h n) (pow_lt h m) h]

def sq (a : Nat) : Nat := mul a a
/-- a 254 times, by squares. -/
def inv254 (a : Nat) : Nat :=
  let a2 := sq a
  let a4 := sq a2
  let a8 := sq a4
  let a16 := sq a8
  let a32 := sq a16
  let a64 := sq a32
  let a128 := sq a64
  mul (mul (mul (mul (mul (mul a128 a64) a32) a16) a8) a4) a2

theorem pow_dbl {a : Nat} (h : a < 256) (n : Nat) : pow a (n + n) = sq (pow a n) := pow_add h n n

theorem pow_254 {a : Nat} (h : a < 256) : pow a 254 = inv254 a := by
  have p1 : pow a 1 = a := by show mul 1 a = a; exact mul_one_left h
  have p2 : pow a 2 = sq a := by rw [show (2 : Nat) = 1 + 1 from rfl, pow_dbl h, p1]
  have p4 : pow a 4 = sq (sq a) := by rw [show (4 : Nat) = 2 + 2 from rfl, pow_dbl h, p2]
  have p8 : pow a 8 = sq (sq (sq a)) := by rw [show (8 : Nat) = 4 + 4 from rfl, pow_dbl h, p4]
  have p16 : pow a 16 = sq (sq (sq (sq a))) := by rw [show (16 : Nat) = 8 + 8 from rfl, pow_dbl h, p8]
  have p32 : pow a 32 = sq (sq (sq (sq (sq a)))) := by rw [show (32 : Nat) = 16 + 16 from rfl, pow_dbl h, p16]
  have p64 : pow a 64 = sq (sq (sq (sq (sq (sq a))))) := by rw [show (64 : Nat) = 32 + 32 from rfl, pow_dbl h, p32]
  have p128 : pow a 128 = sq (sq (sq (sq (sq (sq (sq a)))))) := by rw [show (128 : Nat) = 64 + 64 from rfl, pow_dbl h, p64]
  rw [show (254 : Nat) = 128 + 64 + 32 + 16 + 8 + 4 + 2 from rfl, pow_add h, pow_add h, pow_add h, pow_add h, pow_add h, pow_add h, p128, p64, p32, p16, p8, p4, p2]
  rfl

theorem mul_inv {a : Nat} (h : a < 256) (h0 : a ≠ 0) : mul a (pow a 254) = 1 := by
  rw [pow_254 h]
  have key : ∀ a : Fin 256, a.val ≠ 0 → mul a.val (inv254 a.val) = 1 := by decide +kernel
  exact key ⟨a, h⟩ h0

/-- What is 1 with a is a 254 times. -/
theorem inv_unique {a b : Nat} (ha : a < 256) (hb : b < 256) (h : mul a b = 1) : b = pow a 254 := by
  have h0 : a ≠ 0 := by
    rintro rfl
    rw [mul_zero_left] at h
    omega
  have hp := pow_lt ha 254
  have h1 : mul (mul (pow a 254) a) b = b := by
    rw [mul_comm hp ha, mul_inv ha h0, mul_one_left hb]
  rw [mul_assoc hp ha hb, h, mul_one_right] at h1
  exact h1.symm

theorem pow_zero_base (n : Nat) : pow 0 (n + 1) = 0 := mul_zero_right _

end Gf

/-! ### products of bytes -/
def modb (a : Int) : Nat := (a % 256).toNat
theorem modb_lt (a : Int) : modb a < 256 := by unfold modb; omega
theorem modb_nat {a : Nat} (h : a < 256) : modb (a : Int) = a := by unfold modb; omega
theorem bits_xor64 {a b : Nat} (ha : a < 2 ^ 63) (hb : b < 2 ^ 63) : Go.bits .xor .i64 (a : Int) (b : Int) = ((a ^^^ b : Nat) : Int) := by
  have hx : a ^^^ b < 2 ^ 63 := Nat.xor_lt_two_pow ha hb
  have e : (BitVec.ofNat 64 a ^^^ BitVec.ofNat 64 b).toNat = a ^^^ b := by rw [BitVec.toNat_xor, BitVec.toNat_ofNat, BitVec.toNat_ofNat, Nat.mod_eq_of_lt (by omega), Nat.mod_eq_of_lt (by omega)]
  show IntKind.i64.wrap (((BitVec.ofInt 64 (a : Int)) ^^^ (BitVec.ofInt 64 (b : Int))).toNat : Int) = _
  rw [BitVec.ofInt_natCast, BitVec.ofInt_natCast, e, IntKind.wrap_i64]
  omega
theorem bits_and255 {a : Int} (h0 : -9223372036854775808 ≤ a) (h1 : a ≤ 9223372036854775807) : Go.bits .and .i64 a 255 = ((modb a : Nat) : Int) := by
  have e : ((BitVec.ofInt 64 a) &&& (BitVec.ofInt 64 255)).toNat = (a % 18446744073709551616).toNat % 256 := by
    rw [BitVec.toNat_and, BitVec.toNat_ofInt, show (BitVec.ofInt 64 255).toNat = 2 ^ 8 - 1 by decide, Nat.and_two_pow_sub_one_eq_mod]
    rfl
  show IntKind.i64.wrap (((BitVec.ofInt 64 a) &&& (BitVec.ofInt 64 255)).toNat : Int) = _
  rw [e, IntKind.wrap_i64]
  unfold modb
  omega
theorem bits_and1 {b : Nat} (h : b < 256) : Go.bits .and .i64 (b : Int) 1 = ((b % 2 : Nat) : Int) := by
  have e : ((BitVec.ofInt 64 (b : Int)) &&& (BitVec.ofInt 64 1)).toNat = b % 2 := by
    rw [BitVec.toNat_and, BitVec.ofInt_natCast, BitVec.toNat_ofNat, show (BitVec.ofInt 64 1).toNat = 2 ^ 1 - 1 by decide, Nat.and_two_pow_sub_one_eq_mod]
    show b % 2 ^ 64 % 2 ^ 1 = b % 2
    omega
  show IntKind.i64.wrap (((BitVec.ofInt 64 (b : Int)) &&& (BitVec.ofInt 64 1)).toNat : Int) = _
  rw [e, IntKind.wrap_i64]
  omega
def gmul (a b : Int) : Int := ((Gf.mul (modb a) (modb b) : Nat) : Int)
theorem gmul_range (a b : Int) : 0 ≤ gmul a b ∧ gmul a b ≤ 255 := by
  unfold gmul
  have := Gf.mul_lt (modb b) (modb_lt a)
  omega
theorem modb_gmul (a b : Int) : modb (gmul a b) = Gf.mul (modb a) (modb b) := modb_nat (Gf.mul_lt _ (modb_lt a))

theorem spec_l05Mod_eq {a : Int} (h0 : -9223372036854775808 ≤ a) (h1 : a ≤ 9223372036854775807) : spec_l05Mod.f a = some ((modb a : Nat) : Int) := by
  have e : Int.tmod a 256 = if a < 0 ∧ a % 256 ≠ 0 then a % 256 - 256 else a % 256 := by
    rcases Int.lt_or_le a 0 with h | h
    · obtain ⟨n, rfl⟩ : ∃ n : Nat, a = -(n : Int) := ⟨(-a).toNat, by omega⟩
      rw [Int.neg_tmod, Int.tmod_eq_emod_of_nonneg (by omega)]
      split <;> omega
    · rw [Int.tmod_eq_emod_of_nonneg h, if_neg (by omega)]
  unfold spec_l05Mod.f modb
  rw [e]
  by_cases c : a < 0 ∧ a % 256 ≠ 0
  · rw [if_pos c, if_pos (by omega), w64 (by omega) (by omega)]
    congr 1
    omega
  · rw [if_neg c, if_neg (by omega)]
    congr 1
    omega
theorem spec_MulG_l0 (n : Nat) : ∀ (a b out : Nat), a < 256 → b < 2 ^ n → n ≤ 8 → out < 256 → Ev (fun k => spec_MulG.l0 k (a : Int) (b : Int) (out : Int)) ((out ^^^ Gf.gm n a b : Nat) : Int) := by
  induction n with
  | zero =>
    intro a b out ha hb hn ho
    have hb0 : b = 0 := by omega
    subst hb0
    exact Ev.step (f := fun _ => some (out : Int)) (fun k => by simp only [spec_MulG.l0]; rw [if_neg (by omega)]) (by simpa [Gf.gm] using Ev.now _)
  | succ n ih =>
    intro a b out ha hb hn ho
    by_cases hb0 : b = 0
    · subst hb0
      have hz : Gf.gm (n + 1) a 0 = 0 := by
        have : ∀ n a, Gf.gm n a 0 = 0 := by
          intro n
          induction n with
          | zero => intro a; rfl
          | succ n ih => intro a; simp [Gf.gm, ih]
        exact this _ _
      rw [hz, Nat.xor_zero]
      exact Ev.step (f := fun _ => some (out : Int)) (fun k => by simp only [spec_MulG.l0]; rw [if_neg (by omega)]) (Ev.now _)
    · have h8 : 2 ^ n ≤ 2 ^ 8 := Nat.pow_le_pow_right (by omega) (by omega)
      have h9 : 2 ^ (n + 1) = 2 * 2 ^ n := by rw [Nat.pow_succ]; omega
      have h10 : 2 ^ (n + 1) ≤ 2 ^ 8 := Nat.pow_le_pow_right (by omega) hn
      have hm : Int.tmod (b : Int) 2 = ((b % 2 : Nat) : Int) := by rw [Int.tmod_eq_emod_of_nonneg (by omega)]; rfl
      have hd : wrap64 (Int.tdiv (b : Int) 2) = ((b / 2 : Nat) : Int) := by rw [Int.tdiv_eq_ediv_of_nonneg (by omega), w64 (by omega) (by omega)]; rfl
      have h2 : wrap64 (2 * (a : Int)) = ((2 * a : Nat) : Int) := by rw [w64 (by omega) (by omega)]; rfl
      have hx : ∀ m : Nat, m < 256 → (out ^^^ (if b % 2 = 1 then a else 0) ^^^ Gf.gm n (Gf.xt a) (b / 2)) = (out ^^^ Gf.gm (n + 1) a b) := by
        intro m _
        rw [Gf.gm, Nat.xor_assoc]
      have hxa : Go.bits .xor .i64 (out : Int) (a : Int) = ((out ^^^ a : Nat) : Int) := bits_xor64 (by omega) (by omega)
      have hx5 : Go.bits .xor .i64 ((2 * a : Nat) : Int) 285 = ((2 * a ^^^ 285 : Nat) : Int) := bits_xor64 (b := 285) (by omega) (by omega)
      rw [← hx 0 (by omega)]
      have hlt : out ^^^ (if b % 2 = 1 then a else 0) < 256 := Gf.xor_lt (n := 8) ho (by split <;> omega)
      refine Ev.step (f := fun k => spec_MulG.l0 k ((Gf.xt a : Nat) : Int) ((b / 2 : Nat) : Int) ((out ^^^ (if b % 2 = 1 then a else 0) : Nat) : Int)) (fun k => ?_) (ih _ _ _ (Gf.xt_lt ha) (by omega) (by omega) hlt)
      simp only [spec_MulG.l0, hm, hd, h2, hxa, hx5]
      rw [if_pos (by omega)]
      unfold Gf.xt
      by_cases c1 : b % 2 = 1 <;> by_cases c2 : 255 < 2 * a
      · rw [if_pos (by omega), if_pos (by omega), if_pos c1, if_pos c2]
      · rw [if_pos (by omega), if_neg (by omega), if_pos c1, if_neg c2]
      · rw [if_neg (by omega), if_pos (by omega), if_neg c1, if_pos c2, Nat.xor_zero]
      · rw [if_neg (by omega), if_neg (by omega), if_neg c1, if_neg c2, Nat.xor_zero]
theorem spec_MulG_ev {a b : Int} (a0 : -9223372036854775808 ≤ a) (a1 : a ≤ 9223372036854775807) (b0 : -9223372036854775808 ≤ b) (b1 : b ≤ 9223372036854775807) : Ev (fun k => spec_MulG.f k a b) (gmul a b) := by
  have h := spec_MulG_l0 8 (modb a) (modb b) 0 (modb_lt a) (modb_lt b) (Nat.le_refl _) (by omega)
  rw [Nat.zero_xor] at h
  refine Ev.congr (fun k => ?_) h
  unfold spec_MulG.f
  rw [spec_l05Mod_eq a0 a1, spec_l05Mod_eq b0 b1]
  rfl

theorem impl_MulG_l0 (n : Nat) : ∀ (a b out : Nat), a < 256 → b < 2 ^ n → n ≤ 8 → out < 256 → Ev (fun k => impl_MulG.l0 k (a : Int) (b : Int) (out : Int)) ((out ^^^ Gf.gm n a b : Nat) : Int) := by
  induction n with
  | zero =>
    intro a b out ha hb hn ho
    have hb0 : b = 0 := by omega
    subst hb0
    exact Ev.step (f := fun _ => some (out : Int)) (fun k => by simp only [impl_MulG.l0]; rw [if_neg (by omega)]) (by simpa [Gf.gm] using Ev.now _)
  | succ n ih =>
    intro a b out ha hb hn ho
    by_cases hb0 : b = 0
    · subst hb0
      have hz : Gf.gm (n + 1) a 0 = 0 := by
        have : ∀ n a, Gf.gm n a 0 = 0 := by
          intro n
          induction n with
          | zero => intro a; rfl
          | succ n ih => intro a; simp [Gf.gm, ih]
        exact this _ _
      rw [hz, Nat.xor_zero]
      exact Ev.step (f := fun _ => some (out : Int)) (fun k => by simp only [impl_MulG.l0]; rw [if_neg (by omega)]) (Ev.now _)
    · have h8 : 2 ^ n ≤ 2 ^ 8 := Nat.pow_le_pow_right (by omega) (by omega)
      have h9 : 2 ^ (n + 1) = 2 * 2 ^ n := by rw [Nat.pow_succ]; omega
      have h10 : 2 ^ (n + 1) ≤ 2 ^ 8 := Nat.pow_le_pow_right (by omega) hn
      have hm : Go.bits .and .i64 (b : Int) 1 = ((b % 2 : Nat) : Int) := bits_and1 (by omega)
      have hd : (b : Int) / 2 = ((b / 2 : Nat) : Int) := rfl
      have h2 : wrap64 ((a : Int) * 2) = ((2 * a : Nat) : Int) := by rw [w64 (by omega) (by omega)]; omega
      have hx : (out ^^^ (if b % 2 = 1 then a else 0) ^^^ Gf.gm n (Gf.xt a) (b / 2)) = (out ^^^ Gf.gm (n + 1) a b) := by
        rw [Gf.gm, Nat.xor_assoc]
      have hxa : Go.bits .xor .i64 (out : Int) (a : Int) = ((out ^^^ a : Nat) : Int) := bits_xor64 (by omega) (by omega)
      have hx5 : Go.bits .xor .i64 ((2 * a : Nat) : Int) 285 = ((2 * a ^^^ 285 : Nat) : Int) := bits_xor64 (b := 285) (by omega) (by omega)
      rw [← hx]
      have hlt : out ^^^ (if b % 2 = 1 then a else 0) < 256 := Gf.xor_lt (n := 8) ho (by split <;> omega)
      refine Ev.step (f := fun k => impl_MulG.l0 k ((Gf.xt a : Nat) : Int) ((b / 2 : Nat) : Int) ((out ^^^ (if b % 2 = 1 then a else 0) : Nat) : Int)) (fun k => ?_) (ih _ _ _ (Gf.xt_lt ha) (by omega) (by omega) hlt)
      simp only [impl_MulG.l0, hm, hd, h2, hxa, hx5]
      rw [if_pos (by omega)]
      unfold Gf.xt
      by_cases c1 : b % 2 = 1 <;> by_cases c2 : 255 < 2 * a
      · rw [if_pos (by omega), if_pos (by omega), if_pos c1, if_pos c2]
      · rw [if_pos (by omega), if_neg (by omega), if_pos c1, if_neg c2]
      · rw [if_neg (by omega), if_pos (by omega), if_neg c1, if_pos c2, Nat.xor_zero]
      · rw [if_neg (by omega), if_neg (by omega), if_neg c1, if_neg c2, Nat.xor_zero]
theorem impl_MulG_ev {a b : Int} (a0 : -9223372036854775808 ≤ a) (a1 : a ≤ 9223372036854775807) (b0 : -9223372036854775808 ≤ b) (b1 : b ≤ 9223372036854775807) : Ev (fun k => impl_MulG.f k a b) (gmul a b) := by
  have h := impl_MulG_l0 8 (modb a) (modb b) 0 (modb_lt a) (modb_lt b) (Nat.le_refl _) (by omega)
  rw [Nat.zero_xor] at h
  refine Ev.congr (fun k => ?_) h
  unfold impl_MulG.f
  rw [bits_and255 a0 a1, bits_and255 b0 b1]
  rfl

/-! ### powers -/
def gpow (a : Int) (n : Int) : Int := if 0 ≤ n ∧ n ≤ 1000 then ((Gf.pow (modb a) n.toNat : Nat) : Int) else 0
theorem gmul_pow (a : Int) (i : Nat) : gmul ((Gf.pow (modb a) i : Nat) : Int) a = ((Gf.pow (modb a) (i + 1) : Nat) : Int) := by
  unfold gmul
  rw [modb_nat (Gf.pow_lt (modb_lt a) i)]
  rfl

theorem spec_PowG_l0 {a : Int} (a0 : -9223372036854775808 ≤ a) (a1 : a ≤ 9223372036854775807) (n : Nat) (hn : n ≤ 1000) (d : Nat) : ∀ i : Nat, i ≤ n → n - i = d →
    Ev (fun k => spec_PowG.l0 k a (n : Int) ((Gf.pow (modb a) i : Nat) : Int) (i : Int)) ((Gf.pow (modb a) n : Nat) : Int) := by
  induction d with
  | zero =>
    intro i hi hd
    obtain rfl : i = n := by omega
    exact Ev.step (f := fun _ => some ((Gf.pow (modb a) i : Nat) : Int)) (fun k => by simp only [spec_PowG.l0]; rw [if_neg (by omega)]) (Ev.now _)
  | succ d ih =>
    intro i hi hd
    have hl := Gf.pow_lt (modb_lt a) i
    refine Ev.step (f := fun k => (spec_MulG.f k ((Gf.pow (modb a) i : Nat) : Int) a).bind fun t => spec_PowG.l0 k a (n : Int) t ((i + 1 : Nat) : Int)) (fun k => ?_) (Ev.bind (spec_MulG_ev (by omega) (by omega) a0 a1) ?_)
    · simp only [spec_PowG.l0]
      rw [if_pos (by omega), w64 (by omega) (by omega)]
      rfl
    · rw [gmul_pow]
      exact ih (i + 1) (by omega) (by omega)
theorem spec_PowG_ev {a n : Int} (a0 : -9223372036854775808 ≤ a) (a1 : a ≤ 9223372036854775807) : Ev (fun k => spec_PowG.f k a n) (gpow a n) := by
  unfold gpow spec_PowG.f
  simp only [spec_l01In_eq, Option.bind_some, decide_eq_true_eq]
  by_cases h : 0 ≤ n ∧ n ≤ 1000
  · simp only [if_pos h]
    obtain ⟨m, rfl⟩ := Int.eq_ofNat_of_zero_le h.1
    exact spec_PowG_l0 a0 a1 m (by omega) m 0 (by omega) (by omega)
  · simp only [if_neg h]
    exact Ev.now _

/-! ### inverses -/
def ginv (a : Int) : Int := if modb a = 0 then 0 else ((Gf.pow (modb a) 254 : Nat) : Int)
theorem ginv_range (a : Int) : 0 ≤ ginv a ∧ ginv a ≤ 255 := by
  unfold ginv
  have := Gf.pow_lt (modb_lt a) 254
  split <;> omega

theorem spec_InvG_ev {a : Int} (a0 : -9223372036854775808 ≤ a) (a1 : a ≤ 9223372036854775807) : Ev (fun k => spec_InvG.f k a) (ginv a) := by
  unfold spec_InvG.f ginv
  rw [spec_l05Mod_eq a0 a1]
  simp only [Option.bind_some]
  have hl := modb_lt a
  by_cases h : modb a = 0
  · simp only [h, if_true, Int.natCast_zero]
    exact Ev.now _
  · simp only [if_neg h, if_neg (show ¬ ((modb a : Nat) : Int) = 0 by omega)]
    have hp := spec_PowG_ev (a := ((modb a : Nat) : Int)) (n := 254) (by omega) (by omega)
    have e : gpow ((modb a : Nat) : Int) 254 = ((Gf.pow (modb a) 254 : Nat) : Int) := by
      unfold gpow
      rw [if_pos (by omega), modb_nat hl]
      rfl
    rw [e] at hp
    exact Ev.bind hp (Ev.now _)

theorem gmul_nat {a : Int} {b : Nat} (hb : b < 256) : gmul a (b : Int) = ((Gf.mul (modb a) b : Nat) : Int) := by
  unfold gmul
  rw [modb_nat hb]
theorem impl_InvG_l0 {a : Int} (a0 : -9223372036854775808 ≤ a) (a1 : a ≤ 9223372036854775807) (d : Nat) : ∀ b : Nat, 1 ≤ b → b ≤ 256 → 256 - b = d → (∀ c, 1 ≤ c → c < b → Gf.mul (modb a) c ≠ 1) → Ev (fun k => impl_InvG.l0 k a (b : Int)) (ginv a) := by
  have hl := modb_lt a
  induction d with
  | zero =>
    intro b h1 h2 hd hno
    obtain rfl : b = 256 := by omega
    have hz : modb a = 0 := by
      refine Decidable.byContradiction fun h => ?_
      have hm := Gf.mul_inv hl h
      have hp := Gf.pow_lt hl 254
      have h0 : Gf.pow (modb a) 254 ≠ 0 := by
        intro h0
        rw [h0, Gf.mul_zero_right] at hm
        omega
      exact hno _ (by omega) hp hm
    unfold ginv
    rw [if_pos hz]
    exact Ev.step (f := fun _ => some 0) (fun k => by simp only [impl_InvG.l0]; rw [if_neg (by omega)]) (Ev.now _)
  | succ d ih =>
    intro b h1 h2 hd hno
    refine Ev.step (f := fun k => (impl_MulG.f k a (b : Int)).bind fun t => if t = 1 then some (b : Int) else impl_InvG.l0 k a ((b + 1 : Nat) : Int)) (fun k => ?_) (Ev.bind (impl_MulG_ev a0 a1 (by omega) (by omega)) ?_)
    · simp only [impl_InvG.l0]
      rw [if_pos (by omega), wsucc (by omega)]
    · rw [gmul_nat (by omega)]
      by_cases h : Gf.mul (modb a) b = 1
      · simp only [h]
        have hb := Gf.inv_unique hl (show b < 256 by omega) h
        have h0 : modb a ≠ 0 := by
          intro h0
          rw [h0, Gf.mul_zero_left] at h
          omega
        have e : ginv a = (b : Int) := by
          unfold ginv
          rw [if_neg h0, ← hb]
        rw [e]
        simp only [Int.natCast_one, if_true]
        exact Ev.now _
      · simp only [if_neg (show ¬ ((Gf.mul (modb a) b : Nat) : Int) = 1 by omega)]
        refine ih (b + 1) (by omega) (by omega) (by omega) (fun c hc hc2 => ?_)
        by_cases hcb : c = b
        · rw [hcb]; exact h
        · exact hno c hc (by omega)
theorem impl_InvG_ev {a : Int} (a0 : -9223372036854775808 ≤ a) (a1 : a ≤ 9223372036854775807) : Ev (fun k => impl_InvG.f k a) (ginv a) :=
  impl_InvG_l0 a0 a1 255 1 (by omega) (by omega) (by omega) (fun c h1 h2 => by omega)

/-! ### matrices of bytes -/
def xs : Nat → (Nat → Nat) → Nat
  | 0, _ => 0
  | n + 1, h => xs n h ^^^ h n
theorem xs_lt {h : Nat → Nat} : ∀ {n : Nat}, (∀ k, k < n → h k < 256) → xs n h < 256
  | 0, _ => by simp [xs]
  | n + 1, H => Gf.xor_lt (n := 8) (xs_lt (fun k hk => H k (by omega))) (H n (by omega))
theorem xs_congr {f g : Nat → Nat} : ∀ {n : Nat}, (∀ k, k < n → f k = g k) → xs n f = xs n g
  | 0, _ => rfl
  | n + 1, H => by rw [xs, xs, xs_congr (fun k hk => H k (by omega)), H n (by omega)]
theorem xs_zero : ∀ n : Nat, xs n (fun _ => 0) = 0
  | 0 => rfl
  | n + 1 => by rw [xs, xs_zero n, Nat.xor_self]
theorem xs_xor (f g : Nat → Nat) : ∀ n : Nat, xs n (fun k => f k ^^^ g k) = xs n f ^^^ xs n g
  | 0 => by simp [xs]
  | n + 1 => by
    rw [xs, xs, xs, xs_xor f g n]
    ac_rfl
theorem mul_xs (a : Nat) (h : Nat → Nat) : ∀ n : Nat, Gf.mul a (xs n h) = xs n (fun k => Gf.mul a (h k))
  | 0 => Gf.mul_zero_right a
  | n + 1 => by rw [xs, xs, Gf.mul_xor_right, mul_xs a h n]
theorem xs_mul (b : Nat) {h : Nat → Nat} : ∀ {n : Nat}, (∀ k, k < n → h k < 256) → Gf.mul (xs n h) b = xs n (fun k => Gf.mul (h k) b)
  | 0, _ => Gf.mul_zero_left b
  | n + 1, H => by rw [xs, xs, Gf.mul_xor_left b (xs_lt (fun k hk => H k (by omega))) (H n (by omega)), xs_mul b (fun k hk => H k (by omega))]
theorem xs_swap (m : Nat) (h : Nat → Nat → Nat) : ∀ n : Nat, xs n (fun k => xs m (fun l => h k l)) = xs m (fun l => xs n (fun k => h k l))
  | 0 => (xs_zero m).symm
  | n + 1 => by
    rw [xs, xs_swap m h n]
    exact (xs_xor _ _ m).symm
theorem xs_off {j : Nat} (f : Nat → Nat) : ∀ {n : Nat}, n ≤ j → xs n (fun k => if k = j then f k else 0) = 0
  | 0, _ => rfl
  | n + 1, h => by rw [xs, xs_off f (by omega), if_neg (by omega), Nat.xor_self]
theorem xs_one {j : Nat} (f : Nat → Nat) : ∀ {n : Nat}, j < n → xs n (fun k => if k = j then f k else 0) = f j
  | n + 1, h => by
    rw [xs]
    by_cases e : n = j
    · subst e
      rw [if_pos rfl, xs_off f (Nat.le_refl _), Nat.zero_xor]
    · rw [if_neg e, xs_one f (by omega), Nat.xor_zero]
def mk (r c : Nat) (f : Nat → Nat → Nat) : List (List Int) := (List.range r).map fun i => (List.range c).map fun j => ((f i j : Nat) : Int)
def ent (m : List (List Int)) (i j : Nat) : Nat := ((m.getD i []).getD j 0).toNat
theorem mk_length (r c : Nat) (f : Nat → Nat → Nat) : (mk r c f).length = r := by simp [mk]
theorem mk_get (r c : Nat) (f : Nat → Nat → Nat) {i : Nat} (hi : i < r) : (mk r c f).getD i [] = (List.range c).map fun j => ((f i j : Nat) : Int) := by
  unfold mk
  rw [List.getD_eq_getElem?_getD, List.getElem?_map, List.getElem?_range hi]
  rfl
theorem headD_getD (m : List (List Int)) : m.headD [] = m.getD 0 [] := by cases m <;> rfl
theorem mk_head (r c : Nat) (f : Nat → Nat → Nat) (hr : 0 < r) : ((mk r c f).headD []).length = c := by rw [headD_getD, mk_get r c f hr]; simp
theorem ent_mk (r c : Nat) (f : Nat → Nat → Nat) {i j : Nat} (hi : i < r) (hj : j < c) : ent (mk r c f) i j = f i j := by
  unfold ent
  rw [mk_get r c f hi, List.getD_eq_getElem?_getD, List.getElem?_map, List.getElem?_range hj]
  rfl
theorem mk_congr {r c : Nat} {f g : Nat → Nat → Nat} (H : ∀ i, i < r → ∀ j, j < c → f i j = g i j) : mk r c f = mk r c g := by
  unfold mk
  refine List.map_congr_left (fun i hi => List.map_congr_left (fun j hj => ?_))
  rw [H i (List.mem_range.mp hi) j (List.mem_range.mp hj)]
theorem okM_mk {r c : Nat} {f : Nat → Nat → Nat} (h1 : 1 ≤ r) (h2 : r ≤ 8) (h3 : 1 ≤ c) (h4 : c ≤ 8) (H : ∀ i, i < r → ∀ j, j < c → f i j < 256) : okM (mk r c f) = true := by
  unfold okM
  rw [mk_length, mk_head r c f (by omega)]
  have e1 : in18 r = true := decide_eq_true ⟨h1, h2⟩
  have e2 : in18 c = true := decide_eq_true ⟨h3, h4⟩
  rw [e1, e2, Bool.true_and, Bool.true_and, List.all_eq_true]
  intro x hx
  unfold mk at hx
  obtain ⟨i, hi, rfl⟩ := List.mem_map.mp hx
  unfold okR
  rw [Bool.and_eq_true]
  refine ⟨by simp, ?_⟩
  rw [List.all_eq_true]
  intro y hy
  obtain ⟨j, hj, rfl⟩ := List.mem_map.mp hy
  have := H i (List.mem_range.mp hi) j (List.mem_range.mp hj)
  unfold inB
  exact decide_eq_true (by omega)
theorem of_okM {m : List (List Int)} (h : okM m = true) : 1 ≤ m.length ∧ m.length ≤ 8 ∧ 1 ≤ (m.headD []).length ∧ (m.headD []).length ≤ 8 ∧ (∀ i, i < m.length → (m.getD i []).length = (m.headD []).length ∧ ∀ x ∈ m.getD i [], 0 ≤ x ∧ x ≤ 255) := by
  unfold okM at h
  rw [Bool.and_eq_true, Bool.and_eq_true] at h
  obtain ⟨⟨h1, h2⟩, h3⟩ := h
  have h1 := of_decide_eq_true h1
  have h2 := of_decide_eq_true h2
  refine ⟨h1.1, h1.2, h2.1, h2.2, fun i hi => ?_⟩
  rw [List.all_eq_true] at h3
  have e : m.getD i [] = m[i] := by rw [List.getD_eq_getElem?_getD, List.getElem?_eq_getElem hi]; rfl
  have h4 := h3 _ (List.getElem_mem hi)
  unfold okR at h4
  rw [Bool.and_eq_true] at h4
  rw [e]
  refine ⟨of_decide_eq_true h4.1, fun x hx => ?_⟩
  exact of_decide_eq_true (List.all_eq_true.mp h4.2 x hx)
theorem rd_ent {m : List (List Int)} (h : okM m = true) {i j : Nat} (hi : i < m.length) (hj : j < (m.headD []).length) : rd (rd_L1 m (i : Int)) (j : Int) = ((ent m i j : Nat) : Int) ∧ ent m i j < 256 := by
  obtain ⟨_, _, _, _, H⟩ := of_okM h
  obtain ⟨h1, h2⟩ := H i hi
  unfold rd rd_L1 ent
  rw [Int.toNat_natCast, Int.toNat_natCast]
  have hj' : j < (m.getD i []).length := by omega
  have e : (m.getD i []).getD j 0 = (m.getD i [])[j] := by rw [List.getD_eq_getElem?_getD, List.getElem?_eq_getElem hj']; rfl
  have := h2 _ (List.getElem_mem hj')
  rw [e]
  omega
theorem rdL_len {m : List (List Int)} (h : okM m = true) {i : Nat} (hi : i < m.length) : (rd_L1 m (i : Int)).length = (m.headD []).length := by
  obtain ⟨_, _, _, _, H⟩ := of_okM h
  unfold rd_L1
  rw [Int.toNat_natCast]
  exact (H i hi).1
theorem eq_mk {m : List (List Int)} (h : okM m = true) : m = mk m.length (m.headD []).length (ent m) := by
  obtain ⟨_, _, _, _, H⟩ := of_okM h
  refine List.ext_getElem (by rw [mk_length]) (fun i h1 h2 => ?_)
  have e : m[i] = m.getD i [] := by rw [List.getD_eq_getElem?_getD, List.getElem?_eq_getElem h1]; rfl
  have e2 : (mk m.length (m.headD []).length (ent m))[i] = (mk m.length (m.headD []).length (ent m)).getD i [] := by rw [List.getD_eq_getElem?_getD, List.getElem?_eq_getElem h2]; rfl
  rw [e, e2, mk_get _ _ _ h1]
  obtain ⟨h3, h4⟩ := H i h1
  refine List.ext_getElem (by simpa using h3) (fun j h5 h6 => ?_)
  have := h4 _ (List.getElem_mem h5)
  have h8 : (m.getD i []).getD j 0 = (m.getD i [])[j] := by rw [List.getD_eq_getElem?_getD (l := m.getD i []), List.getElem?_eq_getElem h5]; rfl
  have h7 : ent m i j = ((m.getD i [])[j]).toNat := by unfold ent; rw [h8]
  rw [List.getElem_map, List.getElem_range, h7]
  omega
theorem gmul_nn {a b : Nat} (ha : a < 256) (hb : b < 256) : gmul (a : Int) (b : Int) = ((Gf.mul a b : Nat) : Int) := by
  unfold gmul
  rw [modb_nat ha, modb_nat hb]
def mulM (a b : List (List Int)) : List (List Int) := mk a.length (b.headD []).length (fun i j => xs b.length (fun k => Gf.mul (ent a i k) (ent b k j)))
def mulR (a b : List (List Int)) : List (List Int) := if okM a = true ∧ okM b = true ∧ (a.headD []).length = b.length then mulM a b else []
theorem range_map_succ {α : Type} (F : Nat → α) (n : Nat) : (List.range (n + 1)).map F = (List.range n).map F ++ [F n] := by rw [List.range_succ, List.map_append]; rfl
theorem mulR_mk {r n c : Nat} {f g : Nat → Nat → Nat} (hr : 1 ≤ r ∧ r ≤ 8) (hn : 1 ≤ n ∧ n ≤ 8) (hc : 1 ≤ c ∧ c ≤ 8) (hf : ∀ i, i < r → ∀ j, j < n → f i j < 256) (hg : ∀ i, i < n → ∀ j, j < c → g i j < 256) :
    mulR (mk r n f) (mk n c g) = mk r c (fun i j => xs n (fun k => Gf.mul (f i k) (g k j))) := by
  unfold mulR
  rw [if_pos ⟨okM_mk hr.1 hr.2 hn.1 hn.2 hf, okM_mk hn.1 hn.2 hc.1 hc.2 hg, by rw [mk_head r n f (by omega), mk_length]⟩]
  unfold mulM
  rw [mk_length, mk_length, mk_head n c g (by omega)]
  refine mk_congr (fun i hi j hj => xs_congr (fun k hk => ?_))
  rw [ent_mk r n f hi hk, ent_mk n c g hk hj]
theorem mul_lt_of {n : Nat} {f g : Nat → Nat} (hf : ∀ k, k < n → f k < 256) : xs n (fun k => Gf.mul (f k) (g k)) < 256 := xs_lt (fun k hk => Gf.mul_lt _ (hf k hk))
/-- Products do not care how they are taken together. -/
theorem assoc_mk {r n m c : Nat} {f g h : Nat → Nat → Nat} (hr : 1 ≤ r ∧ r ≤ 8) (hn : 1 ≤ n ∧ n ≤ 8) (hm : 1 ≤ m ∧ m ≤ 8) (hc : 1 ≤ c ∧ c ≤ 8)
    (hf : ∀ i, i < r → ∀ j, j < n → f i j < 256) (hg : ∀ i, i < n → ∀ j, j < m → g i j < 256) (hh : ∀ i, i < m → ∀ j, j < c → h i j < 256) :
    mulR (mulR (mk r n f) (mk n m g)) (mk m c h) = mulR (mk r n f) (mulR (mk n m g) (mk m c h)) := by
  rw [mulR_mk hr hn hm hf hg, mulR_mk hr hm hc (fun i hi j hj => mul_lt_of (hf i hi)) hh, mulR_mk hn hm hc hg hh, mulR_mk hr hn hc hf (fun i hi j hj => mul_lt_of (hg i hi))]
  refine mk_congr (fun i hi j hj => ?_)
  have e1 : xs m (fun k => Gf.mul (xs n (fun l => Gf.mul (f i l) (g l k))) (h k j)) = xs m (fun k => xs n (fun l => Gf.mul (f i l) (Gf.mul (g l k) (h k j)))) :=
    xs_congr (fun k hk => by
      rw [xs_mul _ (fun l hl => Gf.mul_lt _ (hf i hi l hl))]
      exact xs_congr (fun l hl => Gf.mul_assoc (hf i hi l hl) (hg l hl k hk) (hh k hk j hj)))
  rw [e1, xs_swap]
  exact xs_congr (fun l hl => (mul_xs _ _ _).symm)
def idf (i j : Nat) : Nat := if i = j then 1 else 0
theorem idf_lt (i j : Nat) : idf i j < 256 := by unfold idf; split <;> omega
theorem mul_one_mk {r n : Nat} {f : Nat → Nat → Nat} (hr : 1 ≤ r ∧ r ≤ 8) (hn : 1 ≤ n ∧ n ≤ 8) (hf : ∀ i, i < r → ∀ j, j < n → f i j < 256) : mulR (mk r n f) (mk n n idf) = mk r n f := by
  rw [mulR_mk hr hn hn hf (fun i _ j _ => idf_lt i j)]
  refine mk_congr (fun i hi j hj => ?_)
  have e : xs n (fun k => Gf.mul (f i k) (idf k j)) = xs n (fun k => if k = j then f i k else 0) := xs_congr (fun k hk => by
    unfold idf
    by_cases h : k = j
    · rw [if_pos h, if_pos h, Gf.mul_one_right]
    · rw [if_neg h, if_neg h, Gf.mul_zero_right])
  rw [e, xs_one _ hj]
theorem one_mul_mk {n c : Nat} {f : Nat → Nat → Nat} (hn : 1 ≤ n ∧ n ≤ 8) (hc : 1 ≤ c ∧ c ≤ 8) (hf : ∀ i, i < n → ∀ j, j < c → f i j < 256) : mulR (mk n n idf) (mk n c f) = mk n c f := by
  rw [mulR_mk hn hn hc (fun i _ j _ => idf_lt i j) hf]
  refine mk_congr (fun i hi j hj => ?_)
  have e : xs n (fun k => Gf.mul (idf i k) (f k j)) = xs n (fun k => if k = i then f k j else 0) := xs_congr (fun k hk => by
    unfold idf
    by_cases h : k = i
    · subst h
      rw [if_pos rfl, if_pos rfl, Gf.mul_one_left (hf k hk j hj)]
    · rw [if_neg h, if_neg (fun e => h e.symm), Gf.mul_zero_left])
  rw [e, xs_one (fun k => f k j) hi]

/-! ### the matrix of ones -/
def oneR (n : Int) : List (List Int) := if 1 ≤ n ∧ n ≤ 8 then mk n.toNat n.toNat idf else []
theorem one_row {n i : Nat} (hi : i < n) : (List.replicate n (0 : Int)).set i 1 = (List.range n).map fun j => ((idf i j : Nat) : Int) := by
  refine List.ext_getElem (by simp) (fun j h1 h2 => ?_)
  rw [List.getElem_set, List.getElem_map, List.getElem_range]
  unfold idf
  by_cases e : i = j
  · rw [if_pos e, if_pos e]; rfl
  · rw [if_neg e, if_neg e, List.getElem_replicate]; rfl

/-! ### impl.OneM -/
theorem impl_OneM_ev (n : Int) : Ev (fun k => impl_OneM.f k n) (oneR n) := by
  unfold impl_OneM.f oneR
  rw [impl_within_eq]
  refine Ev.some_bind rfl ?_
  by_cases h : 1 ≤ n ∧ n ≤ 8
  · rw [if_pos h]
    refine Ev.pos (decide_eq_true h) ?_
    obtain ⟨N, rfl⟩ := Int.eq_ofNat_of_zero_le (show 0 ≤ n by omega)
    have key : ∀ d i : Nat, i ≤ N → N - i = d → Ev (fun q => impl_OneM.l0 q (N : Int) ((List.range i).map fun i => (List.range N).map fun j => ((idf i j : Nat) : Int)) (i : Int)) (mk N N idf) := by
      intro d
      induction d with
      | zero =>
        intro i hi hd
        obtain rfl : i = N := by omega
        refine Ev.step (f := fun _ => some (mk i i idf)) (fun q => ?_) (Ev.now _)
        simp only [impl_OneM.l0]
        rw [if_neg (by omega)]
        rfl
      | succ d ih =>
        intro i hi hd
        have z := ih (i + 1) (by omega) (by omega)
        rw [range_map_succ] at z
        refine Ev.step (fun q => ?_) z
        simp only [impl_OneM.l0]
        rw [if_pos (by omega), if_pos (by omega), if_pos (by omega), Option.bind_some, if_pos (by omega), Int.toNat_natCast, Int.toNat_natCast, List.length_replicate, if_pos (by omega), if_pos (by simp; omega), wsucc (by omega), one_row (by omega)]
    exact key N 0 (by omega) (by omega)
  · rw [if_neg h]
    exact Ev.neg (by simpa using h) (Ev.now _)

/-! ### spec.OneM -/
theorem spec_OneM_ev (n : Int) : Ev (fun k => spec_OneM.f k n) (oneR n) := by
  unfold spec_OneM.f oneR
  by_cases h : 1 ≤ n ∧ n ≤ 8
  · rw [if_pos h]
    obtain ⟨N, rfl⟩ := Int.eq_ofNat_of_zero_le (show 0 ≤ n by omega)
    have key : ∀ d i : Nat, i ≤ N → N - i = d → Ev (fun q => spec_OneM.l0 q (N : Int) ((List.range i).map fun i => (List.range N).map fun j => ((idf i j : Nat) : Int)) (i : Int)) (mk N N idf) := by
      intro d
      induction d with
      | zero =>
        intro i hi hd
        obtain rfl : i = N := by omega
        refine Ev.step (f := fun _ => some (mk i i idf)) (fun q => ?_) (Ev.now _)
        simp only [spec_OneM.l0]
        rw [if_neg (by omega)]
        rfl
      | succ d ih =>
        intro i hi hd
        have z := ih (i + 1) (by omega) (by omega)
        rw [range_map_succ] at z
        refine Ev.step (fun q => ?_) z
        simp only [spec_OneM.l0]
        rw [if_pos (by omega), spec_l01In_eq, Option.bind_some, if_pos (decide_eq_true h), if_pos (by omega), if_pos (by omega), Option.bind_some, if_pos (by omega), Int.toNat_natCast, Int.toNat_natCast, List.length_replicate, if_pos (by omega), if_pos (by simp; omega), wsucc (by omega), one_row (by omega)]
    exact key N 0 (by omega) (by omega)
  · rw [if_neg h]
    by_cases h0 : 0 < n
    · refine Ev.step (f := fun _ => some []) (fun q => ?_) (Ev.now _)
      simp only [spec_OneM.l0]
      rw [if_pos h0, spec_l01In_eq, Option.bind_some, if_neg (by simpa using h)]
    · refine Ev.step (f := fun _ => some []) (fun q => ?_) (Ev.now _)
      simp only [spec_OneM.l0]
      rw [if_neg h0]

theorem mk_rows {r c : Nat} {f : Nat → Nat → Nat} {N : Nat} (h : c ≤ N) : ∀ x ∈ mk r c f, x.length ≤ N := by
  intro x hx
  unfold mk at hx
  obtain ⟨i, _, rfl⟩ := List.mem_map.mp hx
  simp
  exact h

/-! ### the code of a schema -/
def codeN (k m : Nat) : List (List Int) := mk k k idf ++ (List.range m).map fun i => (List.range k).map fun j => ginv (((k + i) ^^^ j : Nat) : Int)
def codeR (s : Int) : List (List Int) := if s = 1 then codeN 2 1 else if s = 2 then codeN 3 2 else if s = 3 then codeN 4 2 else []
theorem codeN_size {k m : Nat} (hk : k ≤ 8) (hm : m ≤ 8) : (codeN k m).length = k + m ∧ ∀ x ∈ codeN k m, x.length ≤ 8 := by
  unfold codeN
  refine ⟨by rw [List.length_append, mk_length, List.length_map, List.length_range], fun x hx => ?_⟩
  rcases List.mem_append.mp hx with h | h
  · exact mk_rows hk x h
  · obtain ⟨i, _, rfl⟩ := List.mem_map.mp h
    rw [List.length_map, List.length_range]
    exact hk
theorem codeR_size (s : Int) : (codeR s).length ≤ 8 ∧ ∀ x ∈ codeR s, x.length ≤ 8 := by
  unfold codeR
  by_cases h1 : s = 1
  · rw [if_pos h1]
    have := codeN_size (k := 2) (m := 1) (by omega) (by omega)
    exact ⟨by omega, this.2⟩
  · rw [if_neg h1]
    by_cases h2 : s = 2
    · rw [if_pos h2]
      have := codeN_size (k := 3) (m := 2) (by omega) (by omega)
      exact ⟨by omega, this.2⟩
    · rw [if_neg h2]
      by_cases h3 : s = 3
      · rw [if_pos h3]
        have := codeN_size (k := 4) (m := 2) (by omega) (by omega)
        exact ⟨by omega, this.2⟩
      · rw [if_neg h3]
        simp
theorem xor_small {k i j : Nat} (hk : k ≤ 8) (hi : i ≤ 8) (hj : j ≤ 8) : (k + i) ^^^ j < 2 ^ 8 := Nat.xor_lt_two_pow (by omega) (by omega)

/-! ### impl.CodeOf -/
theorem impl_code_ev {k m : Nat} (hk : k ≤ 8) (hm : m ≤ 8) : Ev (fun q => impl_CodeOf.l0 q (k : Int) (m : Int) (mk k k idf) 0) (codeN k m) := by
  have L1 : ∀ (i : Nat), i < m → ∀ (out v : List (List Int)), out.length ≤ 16 → Ev (fun q => impl_CodeOf.l0 q (k : Int) (m : Int) (out ++ [(List.range k).map fun j => ginv (((k + i) ^^^ j : Nat) : Int)]) ((i + 1 : Nat) : Int)) v →
      ∀ d j : Nat, j ≤ k → k - j = d → Ev (fun q => impl_CodeOf.l1 q (k : Int) (m : Int) out (i : Int) ((List.range j).map (fun j => ginv (((k + i) ^^^ j : Nat) : Int)) ++ List.replicate d 0) (k : Int) (j : Int)) v := by
    intro i hi out v ho h d
    induction d with
    | zero =>
      intro j hj hd
      obtain rfl : j = k := by omega
      refine Ev.step (fun q => ?_) h
      simp only [impl_CodeOf.l1]
      rw [if_neg (by omega), if_pos (by omega), wsucc (by omega), List.replicate_zero, List.append_nil]
    | succ d ih =>
      intro j hj hd
      have z := ih (j + 1) (by omega) (by omega)
      rw [range_map_succ, List.append_assoc] at z
      have x8 := xor_small (k := k) (i := i) (j := j) hk (by omega) (by omega)
      have e := impl_InvG_ev (a := (((k + i) ^^^ j : Nat) : Int)) (by omega) (by omega)
      refine Ev.step (f := fun q => (impl_InvG.f q (((k + i) ^^^ j : Nat) : Int)).bind fun t => impl_CodeOf.l1 q (k : Int) (m : Int) out (i : Int) (((List.range j).map (fun j => ginv (((k + i) ^^^ j : Nat) : Int)) ++ List.replicate (d + 1) 0).set j t) (k : Int) ((j + 1 : Nat) : Int)) (fun q => ?_) (Ev.bind e ?_)
      · simp only [impl_CodeOf.l1]
        rw [if_pos (by omega), wadd (by omega), bits_xor64 (by omega) (by omega)]
        refine congrArg (Option.bind _) (funext fun t => ?_)
        rw [if_pos (by omega), if_pos (by rw [List.length_append, List.length_map, List.length_range, List.length_replicate]; omega), wsucc (by omega), Int.toNat_natCast]
      · have s := set_midI ((List.range j).map (fun j => ginv (((k + i) ^^^ j : Nat) : Int))) 0 (ginv (((k + i) ^^^ j : Nat) : Int)) (List.replicate d 0)
        rw [List.length_map, List.length_range] at s
        rw [List.replicate_succ, s]
        exact z
  have L0 : ∀ d i : Nat, i ≤ m → m - i = d → Ev (fun q => impl_CodeOf.l0 q (k : Int) (m : Int) (mk k k idf ++ (List.range i).map fun i => (List.range k).map fun j => ginv (((k + i) ^^^ j : Nat) : Int)) (i : Int)) (codeN k m) := by
    intro d
    induction d with
    | zero =>
      intro i hi hd
      obtain rfl : i = m := by omega
      refine Ev.step (f := fun _ => some (codeN k i)) (fun q => ?_) (Ev.now _)
      simp only [impl_CodeOf.l0]
      rw [if_neg (by omega)]
      rfl
    | succ d ih =>
      intro i hi hd
      have z := ih (i + 1) (by omega) (by omega)
      rw [range_map_succ, ← List.append_assoc] at z
      have y := L1 i (by omega) _ _ (by rw [List.length_append, mk_length, List.length_map, List.length_range]; omega) z k 0 (by omega) (by omega)
      refine Ev.step (fun q => ?_) y
      simp only [impl_CodeOf.l0]
      rw [if_pos (by omega), if_pos (by omega), if_pos (by omega), Option.bind_some, Int.toNat_natCast, List.length_replicate]
      rfl
  have y := L0 m 0 (by omega) (by omega)
  simpa using y
theorem impl_CodeOf_ev (s : Int) : Ev (fun q => impl_CodeOf.f q s) (codeR s) := by
  have one (n : Nat) (h1 : 1 ≤ n) (h8 : n ≤ 8) : Ev (fun q => impl_OneM.f q (n : Int)) (mk n n idf) := by
    have h := impl_OneM_ev (n : Int)
    unfold oneR at h
    rw [if_pos (by omega), Int.toNat_natCast] at h
    exact h
  unfold impl_CodeOf.f impl_SchemaOf.f codeR
  by_cases h1 : s = 1
  · simp only [if_pos h1, Option.bind_some, if_true]
    exact Ev.bind (one 2 (by omega) (by omega)) (impl_code_ev (k := 2) (m := 1) (by omega) (by omega))
  · simp only [if_neg h1]
    by_cases h2 : s = 2
    · simp only [if_pos h2, Option.bind_some, if_true]
      exact Ev.bind (one 3 (by omega) (by omega)) (impl_code_ev (k := 3) (m := 2) (by omega) (by omega))
    · simp only [if_neg h2]
      by_cases h3 : s = 3
      · simp only [if_pos h3, Option.bind_some, if_true]
        exact Ev.bind (one 4 (by omega) (by omega)) (impl_code_ev (k := 4) (m := 2) (by omega) (by omega))
      · simp only [if_neg h3, Option.bind_some, Bool.false_eq_true, if_false]
        exact Ev.now _

/-! ### spec.CodeOf -/
theorem spec_code_ev {k m : Nat} (hk : k ≤ 8) (hm : m ≤ 8) : Ev (fun q => spec_CodeOf.l0 q (k : Int) (m : Int) (mk k k idf) 0) (codeN k m) := by
  have L1 : ∀ (i : Nat), i < m → ∀ (out v : List (List Int)), out.length ≤ 16 → Ev (fun q => spec_CodeOf.l0 q (k : Int) (m : Int) (out ++ [(List.range k).map fun j => ginv (((k + i) ^^^ j : Nat) : Int)]) ((i + 1 : Nat) : Int)) v →
      ∀ d j : Nat, j ≤ k → k - j = d → Ev (fun q => spec_CodeOf.l1 q (k : Int) (m : Int) out (i : Int) ((List.range j).map (fun j => ginv (((k + i) ^^^ j : Nat) : Int))) (j : Int)) v := by
    intro i hi out v ho h d
    induction d with
    | zero =>
      intro j hj hd
      obtain rfl : j = k := by omega
      refine Ev.step (fun q => ?_) h
      simp only [spec_CodeOf.l1]
      rw [if_neg (by omega), if_pos (by omega), wsucc (by omega)]
    | succ d ih =>
      intro j hj hd
      have z := ih (j + 1) (by omega) (by omega)
      rw [range_map_succ] at z
      have x8 := xor_small (k := k) (i := i) (j := j) hk (by omega) (by omega)
      have e := spec_InvG_ev (a := (((k + i) ^^^ j : Nat) : Int)) (by omega) (by omega)
      refine Ev.step (f := fun q => (spec_InvG.f q (((k + i) ^^^ j : Nat) : Int)).bind fun t => spec_CodeOf.l1 q (k : Int) (m : Int) out (i : Int) ((List.range j).map (fun j => ginv (((k + i) ^^^ j : Nat) : Int)) ++ [t]) ((j + 1 : Nat) : Int)) (fun q => ?_) (Ev.bind e z)
      simp only [spec_CodeOf.l1]
      rw [if_pos (by omega), wadd (by omega), bits_xor64 (by omega) (by omega)]
      refine congrArg (Option.bind _) (funext fun t => ?_)
      rw [if_pos (by rw [List.length_map, List.length_range]; omega), wsucc (by omega)]
  have L0 : ∀ d i : Nat, i ≤ m → m - i = d → Ev (fun q => spec_CodeOf.l0 q (k : Int) (m : Int) (mk k k idf ++ (List.range i).map fun i => (List.range k).map fun j => ginv (((k + i) ^^^ j : Nat) : Int)) (i : Int)) (codeN k m) := by
    intro d
    induction d with
    | zero =>
      intro i hi hd
      obtain rfl : i = m := by omega
      refine Ev.step (f := fun _ => some (codeN k i)) (fun q => ?_) (Ev.now _)
      simp only [spec_CodeOf.l0]
      rw [if_neg (by omega)]
      rfl
    | succ d ih =>
      intro i hi hd
      have z := ih (i + 1) (by omega) (by omega)
      rw [range_map_succ, ← List.append_assoc] at z
      have y := L1 i (by omega) _ _ (by rw [List.length_append, mk_length, List.length_map, List.length_range]; omega) z k 0 (by omega) (by omega)
      refine Ev.step (fun q => ?_) y
      simp only [spec_CodeOf.l0]
      rw [if_pos (by omega)]
      rfl
  have y := L0 m 0 (by omega) (by omega)
  simpa using y
theorem spec_CodeOf_ev (s : Int) : Ev (fun q => spec_CodeOf.f q s) (codeR s) := by
  have one (n : Nat) (h1 : 1 ≤ n) (h8 : n ≤ 8) : Ev (fun q => spec_OneM.f q (n : Int)) (mk n n idf) := by
    have h := spec_OneM_ev (n : Int)
    unfold oneR at h
    rw [if_pos (by omega), Int.toNat_natCast] at h
    exact h
  unfold spec_CodeOf.f spec_SchemaOf.f codeR
  by_cases h1 : s = 1
  · simp only [if_pos h1, Option.bind_some, if_true, List.nil_append]
    exact Ev.bind (one 2 (by omega) (by omega)) (Ev.pos (by rw [mk_length]; simp) (spec_code_ev (k := 2) (m := 1) (by omega) (by omega)))
  · simp only [if_neg h1]
    by_cases h2 : s = 2
    · simp only [if_pos h2, Option.bind_some, if_true, List.nil_append]
      exact Ev.bind (one 3 (by omega) (by omega)) (Ev.pos (by rw [mk_length]; simp) (spec_code_ev (k := 3) (m := 2) (by omega) (by omega)))
    · simp only [if_neg h2]
      by_cases h3 : s = 3
      · simp only [if_pos h3, Option.bind_some, if_true, List.nil_append]
        exact Ev.bind (one 4 (by omega) (by omega)) (Ev.pos (by rw [mk_length]; simp) (spec_code_ev (k := 4) (m := 2) (by omega) (by omega)))
      · simp only [if_neg h3, Option.bind_some, Bool.false_eq_true, if_false]
        exact Ev.now _

/-! ### laws.markIntSS: rows of rows are written through -/
def laws_markIntSS.l0 : Nat → List (List Int) → Int → Int → Option (Int × List (List Int))
  | 0, _, _, _ => none
  | k + 1, x0, x1, x5 => if x5 < (x0.length : Int) then (if 0 ≤ x5 then ((laws_markIntS.f k (rd_L1 x0 x5) x1).bind fun bt => (laws_markIntSS.l0 k (x0.set (x5 : Int).toNat bt.2) bt.1 (wrap64 (x5 + 1)))) else none) else (some (x1, x0))
def laws_markIntSS.f (k : Nat) (l0 : List (List Int)) (a1 : Int) : Option (Int × List (List Int)) := laws_markIntSS.l0 k l0 a1 0
set_option maxHeartbeats 8000000 in
set_option maxRecDepth 100000 in
theorem laws_markIntSS.calls (k : Nat) (P0_ : Nat → Prop) (u9000_ : Value) (l0 : List (List Int)) (a1 : Int) (r1 : Int) (r2 : List (List Int)) (w0 w : World) (hB : Below w0.heap.size w0 w) (ho0 : Kd.S (Kd.slice 3 (Kd.int .i64)) 25 w w0.heap.size P0_ u9000_ l0) (h : laws_markIntSS.f k l0 a1 = some (r1, r2)) :
    Calls Try.prog 24 #[u9000_, .int .i64 a1] w fun e w' => e = .returned (.int .i64 r1) ∧ Kd.S (Kd.slice 3 (Kd.int .i64)) 25 w' w0.heap.size P0_ u9000_ r2 ∧ Below w0.heap.size w0 w' ∧ Kept w w' (fun k_ => P0_ k_) := by
  have HO0 := Aside0.mk ho0
  have HK := Aside0.mk (Kept.refl w (fun k_ => P0_ k_))
  have HB := Aside0.mk hB
  clear hB ho0
  have H' := Aside0.mk (show laws_markIntSS.l0 k l0 a1 0 = some (r1, r2) from h)
  clear h
  go_enter Try.func24, Try.ntmps24
  go_wp2
  go_loopg [1, 5] k (fun kq v1 v5 w' => ∃ (x0_1 : List (List Int)) (x1_1 : Int) (x5_1 : Int), v1 = .int .i64 x1_1 ∧ v5 = .int .i64 x5_1 ∧ Aside0 (laws_markIntSS.l0 kq x0_1 x1_1 x5_1 = some (r1, r2)) ∧ Aside0 (kq ≤ k) ∧ Aside0 (Kd.S (Kd.slice 3 (Kd.int .i64)) 25 w' w0.heap.size P0_ u9000_ x0_1) ∧ Aside0 (Kept w w' (fun k_ => P0_ k_)) ∧ Aside0 (Below w0.heap.size w0 w'))
  case atStart => exact ⟨l0, a1, 0, rfl, rfl, H', ⟨Nat.le_refl _⟩, ⟨by (with_reducible repeat (first | apply Kd.S_alloc | apply Kd.S_drewN | apply Kd.S_drew)); exact HO0.out⟩, ⟨by repeat (first | (with_reducible first | exact HK.out | apply Kept.alloc | apply Kept.drewN | apply Kept.drew) | exact HK.out)⟩, ⟨by repeat (first | (with_reducible first | exact HB.out | apply below_alloc | apply pw_below_drewN | apply below_drew1) | exact HB.out)⟩⟩
  case round =>
    clear H'
    obtain ⟨x0_1, x1_1, x5_1, rfl, rfl, HA, HK1, HO_0, HK, HB⟩ := hrel
    cases gk with
    | zero => exact absurd HA.out (by simp [laws_markIntSS.l0])
    | succ k1 =>
      have H := HA.out
      clear HA
      simp only [laws_markIntSS.l0] at H
      by_cases c3 : x5_1 < (x0_1.length : Int)
      · rw [if_pos c3] at H
        have c3b0 : decide (x5_1 < (x0_1.length : Int)) = true := decide_eq_true c3
        clear c3
        by_cases c4 : 0 ≤ x5_1
        · rw [if_pos c4] at H
          have c4b0 : decide (0 ≤ x5_1) = true := decide_eq_true c4
          clear c4
          replace H := Option.bind_eq_some_iff.mp H
          obtain ⟨⟨t1, t2⟩, A50, H⟩ := H
          have A5 := Aside0.mk A50
          clear A50
          have H' := Aside0.mk H
          clear H
          obtain ⟨Ao6, co6, eo6⟩ := Kd.S_slice HO_0.out
          subst eo6
          have p5 : 0 ≤ (x5_1 : Int) := of_decide_eq_true (by first | (with_reducible assumption) | assumption)
          have q5 : (x5_1 : Int) < ((x0_1.length : Int) : Int) := of_decide_eq_true (by first | (with_reducible assumption) | assumption)
          obtain ⟨go5, co5, eo5, gb5, gl5, cl5, HG5⟩ := Kd.S_form HO_0.out (by omega)
          (first | cases eo5 | (injection eo5 with ea_ en_ ec_; (first | subst ea_ | (injection ea_ with ea_; subst ea_)); subst ec_; clear en_))
          obtain ⟨oki, ce, hcl, hM, hcc, hoki, hH⟩ := Kd.S_lend HO_0.out [] (x5_1 : Int) p5 q5
          obtain ⟨ve, rfl, hR0⟩ := hM
          have hR : Kd.R (Kd.int .i64) 3 wr w0.heap.size oki ve (rd_L1 x0_1 x5_1) := hR0
          obtain ⟨A1, c1, e1⟩ := Kd.R_slice hR
          subst e1
          have hx5_0 := hcc 0 _ rfl
          simp only [show ((Kd.slice 3 (Kd.int .i64))).sz = 1 from rfl, Nat.mul_one, Nat.add_zero] at hx5_0
          replace p5 := eq_true p5
          replace q5 := eq_true q5
          go_wp2_with (first | ((with_reducible refine gate_callee (f := 33) rfl ?_); refine goesL_ (some 17) rfl rfl Try.func33 (by kernel_rfl) rfl #[.slice A1 (rd_L1 x0_1 x5_1).length c1, .int .i64 x1_1] rfl (by (try simp only [List.map_toArray, List.map_cons, List.map_nil]); first | done | rfl) ?_; (with_reducible refine (laws_markIntS.calls k1 oki (.slice A1 (rd_L1 x0_1 x5_1).length c1) (rd_L1 x0_1 x5_1) x1_1 t1 t2 w0 _ ?side1 ?side2 A5.out).mono ?_); (case side1 => repeat (first | (with_reducible first | exact HB.out | apply below_alloc | apply pw_below_drewN | apply below_drew1) | exact HB.out)); (case side2 => (with_reducible repeat (first | apply Kd.R_alloc | apply Kd.R_drewN | apply Kd.R_drew)); exact hR); rintro e w8 ⟨rfl, hy0, hb, hkp⟩; refine ⟨_, rfl, ?_⟩; have n0_ := Kd.H_back (Kd.H_kept (by (with_reducible repeat (first | apply Kd.H_alloc | apply Kd.H_drewN | apply Kd.H_drew)); exact hH) hkp (fun k_ _ hn => hn)) (Kd.M_row (Kd.R_reok (ok := oki) rfl hy0 (fun k_ e_ => hR.1 k_ e_))) (fun _ h_ => h_); have n1_ : Kept w w8 (fun k_ => P0_ k_) := Kept.then_ (by repeat (first | (with_reducible first | exact HK.out | apply Kept.alloc | apply Kept.drewN | apply Kept.drew) | exact HK.out)) hkp (fun k_ h_ => .inl (hoki k_ h_).1); clear HB HK HO_0 hH hkp hy0))
          go_roundg k1
          case measure => have := HK1.out; omega
          case rel => exact ⟨_, _, _, rfl, rfl, H', ⟨by have := HK1.out; omega⟩, ⟨by (with_reducible repeat (first | apply Kd.S_alloc | apply Kd.S_drewN | apply Kd.S_drew)); exact n0_⟩, ⟨by repeat (first | (with_reducible first | exact n1_ | apply Kept.alloc | apply Kept.drewN | apply Kept.drew) | exact n1_)⟩, ⟨by repeat (first | (with_reducible first | exact hb | apply below_alloc | apply pw_below_drewN | apply below_drew1) | exact hb)⟩⟩
        · rw [if_neg c4] at H
          exact absurd H (by simp)
      · rw [if_neg c3] at H
        have c3b0 : decide (x5_1 < (x0_1.length : Int)) = false := decide_eq_false c3
        clear c3
        simp only [Option.some.injEq, Prod.mk.injEq] at H
        obtain ⟨rfl, rfl⟩ := H
        obtain ⟨Ao9, co9, eo9⟩ := Kd.S_slice HO_0.out
        subst eo9
        go_wp2
        go_ret
        exact ⟨rfl, by (with_reducible repeat (first | apply Kd.S_alloc | apply Kd.S_drewN | apply Kd.S_drew)); exact HO_0.out, by repeat (first | (with_reducible first | exact HB.out | apply below_alloc | apply pw_below_drewN | apply below_drew1) | exact HB.out), by repeat (first | (with_reducible first | exact HK.out | apply Kept.alloc | apply Kept.drewN | apply Kept.drew) | exact HK.out)⟩

/-! ### marks in rows of rows -/
def mrow (n m : Nat) : List Int := (List.range n).map fun i => ((m + i : Nat) : Int)
def sumLen : List (List Int) → Nat
  | [] => 0
  | r :: rs => r.length + sumLen rs
def mrows : List (List Int) → Nat → List (List Int)
  | [], _ => []
  | r :: rs, m => mrow r.length m :: mrows rs (m + r.length)
theorem mrows_length : ∀ (l : List (List Int)) (m : Nat), (mrows l m).length = l.length
  | [], _ => rfl
  | r :: rs, m => by simp [mrows, mrows_length rs]
theorem mrow_length (n m : Nat) : (mrow n m).length = n := by simp [mrow]
theorem mrow_succ (n m : Nat) : mrow (n + 1) m = mrow n m ++ [((m + n : Nat) : Int)] := by simp [mrow, List.range_succ]
theorem markI_ev (l : List Int) (m : Nat) (hl : m + l.length ≤ 4611686018427387904) : Ev (fun k => laws_markIntS.f k l (m : Int)) (((m + l.length : Nat) : Int), mrow l.length m) := by
  have key : ∀ (B A : List Int) (i : Nat), A = mrow i m → m + i + B.length ≤ 4611686018427387904 → Ev (fun k => laws_markIntS.l0 k (A ++ B) ((m + i : Nat) : Int) (i : Int)) (((m + i + B.length : Nat) : Int), mrow (i + B.length) m) := by
    intro B
    induction B with
    | nil =>
      intro A i h hb
      refine Ev.step (f := fun _ => some (((m + i : Nat) : Int), A ++ [])) (fun k => ?_) ?_
      · simp only [laws_markIntS.l0]
        rw [if_neg (by rw [h]; simp [mrow_length])]
      · subst h
        simpa using Ev.now _
    | cons x B ih =>
      intro A i h hb
      have z := ih (A ++ [((m + i : Nat) : Int)]) (i + 1) (by rw [h, mrow_succ]) (by simp at hb; omega)
      have e1 : m + (i + 1) + B.length = m + i + (x :: B).length := by simp; omega
      have e2 : i + 1 + B.length = i + (x :: B).length := by simp; omega
      rw [e1, e2] at z
      have la : A.length = i := by rw [h, mrow_length]
      refine Ev.step (fun k => ?_) z
      simp only [laws_markIntS.l0]
      rw [if_pos (by simp; omega), if_pos (by omega), wsucc (by simp at hb; omega), wsucc (by simp at hb; omega), Int.toNat_natCast, show (A ++ x :: B).set i ((m + i : Nat) : Int) = A ++ ((m + i : Nat) : Int) :: B by rw [← la]; exact set_midI A x _ B]
      simp [Nat.add_assoc]
  have z := key l [] 0 rfl (by omega)
  unfold laws_markIntS.f
  simpa using z
theorem markSS_ev (l : List (List Int)) (m : Nat) (hl : m + sumLen l ≤ 4611686018427387904) (hn : l.length ≤ 4611686018427387904) : Ev (fun k => laws_markIntSS.f k l (m : Int)) (((m + sumLen l : Nat) : Int), mrows l m) := by
  have key : ∀ (B A : List (List Int)) (m i : Nat), A.length = i → i + B.length ≤ 4611686018427387904 → m + sumLen B ≤ 4611686018427387904 → Ev (fun k => laws_markIntSS.l0 k (A ++ B) ((m : Nat) : Int) (i : Int)) (((m + sumLen B : Nat) : Int), A ++ mrows B m) := by
    intro B
    induction B with
    | nil =>
      intro A m i h hb hs
      refine Ev.step (f := fun _ => some (((m : Nat) : Int), A ++ [])) (fun k => ?_) ?_
      · simp only [laws_markIntSS.l0]
        rw [if_neg (by simp; omega)]
      · simpa [sumLen, mrows] using Ev.now _
    | cons x B ih =>
      intro A m i h hb hs
      simp only [sumLen] at hs
      simp only [List.length_cons] at hb
      have z := ih (A ++ [mrow x.length m]) (m + x.length) (i + 1) (by simp [h]) (by omega) (by omega)
      have r : rd_L1 (A ++ x :: B) (i : Int) = x := by rw [← h]; exact rdL_mid A x B
      refine Ev.step (f := fun k => (laws_markIntS.f k x (m : Int)).bind fun bt => laws_markIntSS.l0 k ((A ++ x :: B).set i bt.2) bt.1 ((i + 1 : Nat) : Int)) (fun k => ?_) (Ev.bind (markI_ev x m (by omega)) ?_)
      · simp only [laws_markIntSS.l0]
        rw [if_pos (by simp; omega), if_pos (by omega), r, wsucc (by omega), Int.toNat_natCast]
      · rw [← h, set_midI, h]
        simpa [sumLen, mrows, Nat.add_assoc] using z
  have z := key l [] m 0 rfl (by omega) hl
  unfold laws_markIntSS.f
  simpa using z
theorem heldI_ev (n m : Nat) (hl : m + n ≤ 4611686018427387904) : Ev (fun k => laws_heldIntS.f k (mrow n m) (m : Int)) ((m + n : Nat) : Int) := by
  have key : ∀ d (i : Nat), i ≤ n → n - i = d → Ev (fun k => laws_heldIntS.l0 k (mrow n m) ((m + i : Nat) : Int) (i : Int)) ((m + n : Nat) : Int) := by
    intro d
    induction d with
    | zero =>
      intro i hi hd
      obtain rfl : i = n := by omega
      refine Ev.step (f := fun _ => some ((m + i : Nat) : Int)) (fun k => ?_) (Ev.now _)
      simp only [laws_heldIntS.l0]
      rw [if_neg (by rw [mrow_length]; omega)]
    | succ d ih =>
      intro i hi hd
      refine Ev.step (fun k => ?_) (ih (i + 1) (by omega) (by omega))
      have hi2 : i < (mrow n m).length := by rw [mrow_length]; omega
      simp only [laws_heldIntS.l0]
      rw [if_pos (by omega), if_pos (by omega), rdI_nat hi2, if_pos (by simp [mrow]), wsucc (by omega), wsucc (by omega)]
      rfl
  exact key n 0 (by omega) (by omega)
theorem heldSS_ev (l : List (List Int)) (m : Nat) (hl : m + sumLen l ≤ 4611686018427387904) (hn : l.length ≤ 4611686018427387904) : Ev (fun k => laws_heldIntSS.f k (mrows l m) (m : Int)) ((m + sumLen l : Nat) : Int) := by
  have key : ∀ (B : List (List Int)) (A : List (List Int)) (m i : Nat), A.length = i → i + B.length ≤ 4611686018427387904 → m + sumLen B ≤ 4611686018427387904 → Ev (fun k => laws_heldIntSS.l0 k (A ++ mrows B m) ((m : Nat) : Int) (i : Int)) ((m + sumLen B : Nat) : Int) := by
    intro B
    induction B with
    | nil =>
      intro A m i h hb hs
      refine Ev.step (f := fun _ => some ((m : Nat) : Int)) (fun k => ?_) (by simpa [sumLen] using Ev.now _)
      simp only [laws_heldIntSS.l0]
      rw [if_neg (by simp [mrows]; omega)]
    | cons x B ih =>
      intro A m i h hb hs
      simp only [sumLen] at hs
      simp only [List.length_cons] at hb
      have z := ih (A ++ [mrow x.length m]) (m + x.length) (i + 1) (by simp [h]) (by omega) (by omega)
      have r : rd_L1 (A ++ mrows (x :: B) m) (i : Int) = mrow x.length m := by rw [← h]; exact rdL_mid A _ _
      refine Ev.step (f := fun k => (laws_heldIntS.f k (mrow x.length m) (m : Int)).bind fun t => if t < 0 then some (-1) else laws_heldIntSS.l0 k (A ++ mrows (x :: B) m) t ((i + 1 : Nat) : Int)) (fun k => ?_) (Ev.bind (heldI_ev x.length m (by omega)) (Ev.neg (by omega) ?_))
      · simp only [laws_heldIntSS.l0]
        rw [if_pos (by simp [mrows]; omega), if_pos (by omega), r, wsucc (by omega)]
      · simpa [sumLen, mrows, Nat.add_assoc] using z
  have z := key l [] m 0 rfl (by omega) hl
  unfold laws_heldIntSS.f
  simpa using z
theorem sumLen_le {N : Nat} : ∀ {l : List (List Int)}, (∀ r ∈ l, r.length ≤ N) → sumLen l ≤ l.length * N
  | [], _ => by simp [sumLen]
  | r :: rs, h => by
    have h1 := h r (by simp)
    have h2 := sumLen_le (l := rs) (fun x hx => h x (by simp [hx]))
    simp only [sumLen, List.length_cons, Nat.add_mul, Nat.one_mul]
    omega

set_option maxHeartbeats 8000000 in
set_option maxRecDepth 100000 in
theorem FnExactCodeOf_walk (k : Nat) (a0 : Int) (r r' : List (List Int)) (M : Int) (w : World) (hM : decide (M < 0) = false) (hl : r'.length = r.length) (hh1 : spec_CodeOf.f k a0 = some r) (hh2 : impl_CodeOf.f k a0 = some r) (hh3 : laws_eqIntSS.f k r r = some true) (hh4 : laws_markIntSS.f k r 1 = some ((M, r'))) (hh5 : laws_heldIntSS.f k r' 1 = some M) :
    Calls Try.prog 6 #[.int .i64 a0] w fun e w' => e = .returned (.bool true) ∧ Below w.heap.size w w' := by
  have HB := Below.refl w.heap.size w
  go_enter Try.func6, Try.ntmps6
  go_wp2_with (first | ((with_reducible refine gate_callee (f := 26) rfl ?_); refine goesL_ (some 9) rfl rfl Try.func26 (by kernel_rfl) rfl #[.int .i64 (a0)] rfl (by (try simp only [List.map_toArray, List.map_cons, List.map_nil]); first | done | rfl | (rw [hl]; rfl) | (rw [← hl]; rfl)) ?_; (with_reducible refine (spec_CodeOf.calls k (a0) (r) _  hh1).mono ?_); rintro e w1 ⟨v, rfl, ho, hb⟩; obtain ⟨A1, c1, rfl⟩ := Kd.N_slice ho; refine ⟨_, rfl, ?_⟩; have hs1 := Kd.N_lower (Kd.N_mono (ok' := fun k_ => w.heap.size ≤ k_ ∧ k_ < w1.heap.size) (Kd.N_bound ho) (fun k_ hk_ => ⟨hk_.1, hk_.2⟩)) (show w.heap.size ≤ w.heap.size from HB.size); clear ho; have HB := below_step (by repeat (first | (with_reducible first | exact HB | apply below_alloc | apply pw_below_drewN | apply below_drew1) | exact HB)) hb; have hz1 : w.heap.size ≤ w1.heap.size := hb.size; clear hb) | ((with_reducible refine gate_callee (f := 27) rfl ?_); refine goesL_ (some 11) rfl rfl Try.func27 (by kernel_rfl) rfl #[.int .i64 (a0)] rfl (by (try simp only [List.map_toArray, List.map_cons, List.map_nil]); first | done | rfl | (rw [hl]; rfl) | (rw [← hl]; rfl)) ?_; (with_reducible refine (impl_CodeOf.calls k (a0) (r) _  hh2).mono ?_); rintro e w2 ⟨v, rfl, ho, hb⟩; obtain ⟨A2, c2, rfl⟩ := Kd.S_slice ho; refine ⟨_, rfl, ?_⟩; have hs1 := Kd.N_below (by (with_reducible repeat (first | apply Kd.N_alloc | apply Kd.N_drewN | apply Kd.N_drew)); exact hs1) hb; have hs2 := Kd.S_lower (Kd.S_mono (ok' := fun k_ => w1.heap.size ≤ k_ ∧ k_ < w2.heap.size) (Kd.S_bound ho) (fun k_ hk_ => ⟨hk_.2.1, hk_.2.2.1⟩)) (show w.heap.size ≤ w1.heap.size from HB.size); clear ho; have HB := below_step (by repeat (first | (with_reducible first | exact HB | apply below_alloc | apply pw_below_drewN | apply below_drew1) | exact HB)) hb; have hz2 : w1.heap.size ≤ w2.heap.size := hb.size; clear hb) | ((with_reducible refine gate_callee (f := 23) rfl ?_); refine goesL_ (some 14) rfl rfl Try.func23 (by kernel_rfl) rfl #[.slice A2 (r).length c2, .slice A1 (r).length c1] rfl (by (try simp only [List.map_toArray, List.map_cons, List.map_nil]); first | done | rfl | (rw [hl]; rfl) | (rw [← hl]; rfl)) ?_; (with_reducible refine (laws_eqIntSS.calls k _ _ (r) _ _ (r) (true) _ ?side1 ?side2 ?side3 ?side4 hh3).mono ?_); (case side1 => repeat (first | exact (Kd.S_reads' hs2).2.2 | (with_reducible refine Kd.C_alloc ?_ _) | (with_reducible refine Kd.C_drewN ?_ _) | (with_reducible refine Kd.C_drew ?_))); (case side2 => have h_ := (Kd.S_reads' hs2).2.1; have e_ := (Kd.S_reads' hs2).1; omega); (case side3 => repeat (first | exact (Kd.N_reads' hs1).2.2 | (with_reducible refine Kd.C_alloc ?_ _) | (with_reducible refine Kd.C_drewN ?_ _) | (with_reducible refine Kd.C_drew ?_))); (case side4 => have h_ := (Kd.N_reads' hs1).2.1; have e_ := (Kd.N_reads' hs1).1; omega); rintro e w3 ⟨rfl, hd⟩; refine ⟨_, rfl, ?_⟩; have hb := hd.below; have hs1 := Kd.N_below (by (with_reducible repeat (first | apply Kd.N_alloc | apply Kd.N_drewN | apply Kd.N_drew)); exact hs1) hb; have hs2 := Kd.S_below (by (with_reducible repeat (first | apply Kd.S_alloc | apply Kd.S_drewN | apply Kd.S_drew)); exact hs2) hb; have HB := below_step (by repeat (first | (with_reducible first | exact HB | apply below_alloc | apply pw_below_drewN | apply below_drew1) | exact HB)) hb; have hz3 : w2.heap.size ≤ w3.heap.size := hb.size; clear hb) | ((with_reducible refine gate_callee (f := 24) rfl ?_); refine goesL_ (some 18) rfl rfl Try.func24 (by kernel_rfl) rfl #[.slice A2 (r).length c2, .int .i64 1] rfl (by (try simp only [List.map_toArray, List.map_cons, List.map_nil]); first | done | rfl | (rw [hl]; rfl) | (rw [← hl]; rfl)) ?_; (with_reducible refine (laws_markIntSS.calls k (fun k_ => w1.heap.size ≤ k_ ∧ k_ < w2.heap.size) (.slice A2 (r).length c2) (r) (1) (M) (r') w _ ?side1 ?side2 hh4).mono ?_); (case side1 => exact (by repeat (first | (with_reducible first | exact HB | apply below_alloc | apply pw_below_drewN | apply below_drew1) | exact HB))); (case side2 => (with_reducible repeat (first | apply Kd.S_alloc | apply Kd.S_drewN | apply Kd.S_drew)); exact hs2); rintro e w4 ⟨rfl, hm, hb, hkp⟩; refine ⟨_, rfl, ?_⟩; have hs1 := Kd.N_kept (by (with_reducible repeat (first | apply Kd.N_alloc | apply Kd.N_drewN | apply Kd.N_drew)); exact hs1) hkp (fun k_ hk_ hs_ => by have h1_ := hk_.1; have h2_ := hk_.2; have h3_ := hs_.1; have h4_ := hs_.2; omega); have hs2 := hm; have HB := hb; have hz4 : w3.heap.size ≤ w4.heap.size := hkp.1; clear hm hb hkp) | ((with_reducible refine gate_callee (f := 25) rfl ?_); refine goesL_ (some 21) rfl rfl Try.func25 (by kernel_rfl) rfl #[.slice A2 (r').length c2, .int .i64 1] rfl (by (try simp only [List.map_toArray, List.map_cons, List.map_nil]); first | done | rfl | (rw [hl]; rfl) | (rw [← hl]; rfl)) ?_; (with_reducible refine (laws_heldIntSS.calls k _ _ (r') (1) (M) _ ?side1 ?side2 hh5).mono ?_); (case side1 => repeat (first | exact (Kd.S_reads' hs2).2.2 | (with_reducible refine Kd.C_alloc ?_ _) | (with_reducible refine Kd.C_drewN ?_ _) | (with_reducible refine Kd.C_drew ?_))); (case side2 => have h_ := (Kd.S_reads' hs2).2.1; have e_ := (Kd.S_reads' hs2).1; omega); rintro e w5 ⟨rfl, hd⟩; refine ⟨_, rfl, ?_⟩; have hb := hd.below; have hs1 := Kd.N_below (by (with_reducible repeat (first | apply Kd.N_alloc | apply Kd.N_drewN | apply Kd.N_drew)); exact hs1) hb; have hs2 := Kd.S_below (by (with_reducible repeat (first | apply Kd.S_alloc | apply Kd.S_drewN | apply Kd.S_drew)); exact hs2) hb; have HB := below_step (by repeat (first | (with_reducible first | exact HB | apply below_alloc | apply pw_below_drewN | apply below_drew1) | exact HB)) hb; have hz5 : w4.heap.size ≤ w5.heap.size := hb.size; clear hb) | ((with_reducible refine gate_callee (f := 27) rfl ?_); refine goesL_ (some 28) rfl rfl Try.func27 (by kernel_rfl) rfl #[.int .i64 (a0)] rfl (by (try simp only [List.map_toArray, List.map_cons, List.map_nil]); first | done | rfl | (rw [hl]; rfl) | (rw [← hl]; rfl)) ?_; (with_reducible refine (impl_CodeOf.calls k (a0) (r) _  hh2).mono ?_); rintro e w6 ⟨v, rfl, ho, hb⟩; obtain ⟨A6, c6, rfl⟩ := Kd.S_slice ho; refine ⟨_, rfl, ?_⟩; have hs1 := Kd.N_below (by (with_reducible repeat (first | apply Kd.N_alloc | apply Kd.N_drewN | apply Kd.N_drew)); exact hs1) hb; have hs2 := Kd.S_below (by (with_reducible repeat (first | apply Kd.S_alloc | apply Kd.S_drewN | apply Kd.S_drew)); exact hs2) hb; have hs6 := Kd.S_lower (Kd.S_mono (ok' := fun k_ => w5.heap.size ≤ k_ ∧ k_ < w6.heap.size) (Kd.S_bound ho) (fun k_ hk_ => ⟨hk_.2.1, hk_.2.2.1⟩)) (show w.heap.size ≤ w5.heap.size from HB.size); clear ho; have HB := below_step (by repeat (first | (with_reducible first | exact HB | apply below_alloc | apply pw_below_drewN | apply below_drew1) | exact HB)) hb; have hz6 : w5.heap.size ≤ w6.heap.size := hb.size; clear hb) | ((with_reducible refine gate_callee (f := 23) rfl ?_); refine goesL_ (some 31) rfl rfl Try.func23 (by kernel_rfl) rfl #[.slice A6 (r).length c6, .slice A1 (r).length c1] rfl (by (try simp only [List.map_toArray, List.map_cons, List.map_nil]); first | done | rfl | (rw [hl]; rfl) | (rw [← hl]; rfl)) ?_; (with_reducible refine (laws_eqIntSS.calls k _ _ (r) _ _ (r) (true) _ ?side1 ?side2 ?side3 ?side4 hh3).mono ?_); (case side1 => repeat (first | exact (Kd.S_reads' hs6).2.2 | (with_reducible refine Kd.C_alloc ?_ _) | (with_reducible refine Kd.C_drewN ?_ _) | (with_reducible refine Kd.C_drew ?_))); (case side2 => have h_ := (Kd.S_reads' hs6).2.1; have e_ := (Kd.S_reads' hs6).1; omega); (case side3 => repeat (first | exact (Kd.N_reads' hs1).2.2 | (with_reducible refine Kd.C_alloc ?_ _) | (with_reducible refine Kd.C_drewN ?_ _) | (with_reducible refine Kd.C_drew ?_))); (case side4 => have h_ := (Kd.N_reads' hs1).2.1; have e_ := (Kd.N_reads' hs1).1; omega); rintro e w7 ⟨rfl, hd⟩; refine ⟨_, rfl, ?_⟩; have hb := hd.below; have hs1 := Kd.N_below (by (with_reducible repeat (first | apply Kd.N_alloc | apply Kd.N_drewN | apply Kd.N_drew)); exact hs1) hb; have hs2 := Kd.S_below (by (with_reducible repeat (first | apply Kd.S_alloc | apply Kd.S_drewN | apply Kd.S_drew)); exact hs2) hb; have hs6 := Kd.S_below (by (with_reducible repeat (first | apply Kd.S_alloc | apply Kd.S_drewN | apply Kd.S_drew)); exact hs6) hb; have HB := below_step (by repeat (first | (with_reducible first | exact HB | apply below_alloc | apply pw_below_drewN | apply below_drew1) | exact HB)) hb; have hz7 : w6.heap.size ≤ w7.heap.size := hb.size; clear hb) | ((with_reducible refine gate_callee (f := 25) rfl ?_); refine goesL_ (some 35) rfl rfl Try.func25 (by kernel_rfl) rfl #[.slice A2 (r').length c2, .int .i64 1] rfl (by (try simp only [List.map_toArray, List.map_cons, List.map_nil]); first | done | rfl | (rw [hl]; rfl) | (rw [← hl]; rfl)) ?_; (with_reducible refine (laws_heldIntSS.calls k _ _ (r') (1) (M) _ ?side1 ?side2 hh5).mono ?_); (case side1 => repeat (first | exact (Kd.S_reads' hs2).2.2 | (with_reducible refine Kd.C_alloc ?_ _) | (with_reducible refine Kd.C_drewN ?_ _) | (with_reducible refine Kd.C_drew ?_))); (case side2 => have h_ := (Kd.S_reads' hs2).2.1; have e_ := (Kd.S_reads' hs2).1; omega); rintro e w8 ⟨rfl, hd⟩; refine ⟨_, rfl, ?_⟩; have hb := hd.below; have hs1 := Kd.N_below (by (with_reducible repeat (first | apply Kd.N_alloc | apply Kd.N_drewN | apply Kd.N_drew)); exact hs1) hb; have hs2 := Kd.S_below (by (with_reducible repeat (first | apply Kd.S_alloc | apply Kd.S_drewN | apply Kd.S_drew)); exact hs2) hb; have hs6 := Kd.S_below (by (with_reducible repeat (first | apply Kd.S_alloc | apply Kd.S_drewN | apply Kd.S_drew)); exact hs6) hb; have HB := below_step (by repeat (first | (with_reducible first | exact HB | apply below_alloc | apply pw_below_drewN | apply below_drew1) | exact HB)) hb; have hz8 : w7.heap.size ≤ w8.heap.size := hb.size; clear hb))
  go_ret
  exact ⟨rfl, by repeat (first | (with_reducible first | exact HB | apply below_alloc | apply pw_below_drewN | apply below_drew1) | exact HB)⟩


theorem FnExactCodeOf (a0 : Int) (h0 : (Lit.int .i64 a0).wf = true) (w : World) : Calls Try.prog 6 #[.int .i64 a0] w fun e w' => e = .returned (.bool true) ∧ Below w.heap.size w w' := by
  obtain ⟨z1, z2⟩ := codeR_size a0
  have sl := sumLen_le z2
  obtain ⟨K1, e1⟩ := spec_CodeOf_ev a0
  obtain ⟨K2, e2⟩ := impl_CodeOf_ev a0
  obtain ⟨K3, e3⟩ := eqIntSS_ev (codeR a0) (by omega) (fun r hr => by have := z2 r hr; omega)
  obtain ⟨K4, e4⟩ := markSS_ev (codeR a0) 1 (by omega) (by omega)
  obtain ⟨K5, e5⟩ := heldSS_ev (codeR a0) 1 (by omega) (by omega)
  exact FnExactCodeOf_walk (K1 + K2 + K3 + K4 + K5) a0 (codeR a0) (mrows (codeR a0) 1) ((1 + sumLen (codeR a0) : Nat) : Int) w (decide_eq_false (by omega)) (mrows_length _ _)
    (e1 _ (by omega)) (e2 _ (by omega)) (e3 _ (by omega)) (e4 _ (by omega)) (e5 _ (by omega))


end Go.Proofs.Ytdllmlnigihpcaa.Pure
