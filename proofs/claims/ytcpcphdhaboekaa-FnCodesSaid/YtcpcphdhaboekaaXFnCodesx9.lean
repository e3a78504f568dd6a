/- What the functions of a law compute, and that their calls compute it: written by a program of this session (xprint.py), which turns the kit print at a few places. -/
import Derived.Test.YtcpcphdhaboekaaXFnCodesx0
import Derived.Test.YtcpcphdhaboekaaXFnCodesx1
import Derived.Test.YtcpcphdhaboekaaXFnCodesx2
import Derived.Test.YtcpcphdhaboekaaXFnCodesx3
import Derived.Test.YtcpcphdhaboekaaXFnCodesx8
namespace Go.Proofs.Ytcpcphdhaboekaa.XFnCodes
open Go.RowKit Go.Proofs.YtcpcphdhaboekaaT.PrintWords Go.Proofs.YtcpcphdhaboekaaT.PrintLast Go.Proofs.YtcpcphdhaboekaaT.PrintMore
attribute [local go_sem] max2_int min2_int max_two min_two max_three min_three max_four min_four   -- for this text's walks alone
set_option linter.unusedVariables false
set_option linter.unusedSimpArgs false

/-! ### impl_InvM: function 37 -/
-- FRAGS: Base InImpl IntRd MatOk MatOkImpl Gf MulG MulGImpl InvG InvGImpl Mx MkRows OneDef OneMImpl Gj GjRows ScaleEv SSwap
/-! ### small words -/
theorem w64 {x : Int} (h0 : -9223372036854775808 ≤ x) (h1 : x ≤ 9223372036854775807) : wrap64 x = x := by
  unfold wrap64
  omega
theorem wsucc {n : Nat} (h : n ≤ 4611686018427387904) : wrap64 ((n : Int) + 1) = ((n + 1 : Nat) : Int) := by
  rw [w64 (by omega) (by omega)]
  rfl
theorem wadd {a b : Nat} (h : a + b ≤ 4611686018427387904) : wrap64 ((a : Int) + (b : Int)) = ((a + b : Nat) : Int) := by
  rw [w64 (by omega) (by omega)]
  rfl
theorem wnat {n : Nat} (h : n ≤ 4611686018427387904) : wrap64 (n : Int) = (n : Int) := w64 (by omega) (by omega)
theorem Ev.some_bind {α β : Type} {a : Option α} {x : α} (h : a = some x) {f : Nat → α → Option β} {r : β} (k : Ev (fun n => f n x) r) : Ev (fun n => a.bind (f n)) r := by
  subst h
  exact k
theorem Ev.pos {α : Type} {p : Prop} [Decidable p] (h : p) {f g : Nat → Option α} {r : α} (k : Ev f r) : Ev (fun n => if p then f n else g n) r :=
  Ev.congr (fun _ => if_pos h) k
theorem Ev.neg {α : Type} {p : Prop} [Decidable p] (h : ¬ p) {f g : Nat → Option α} {r : α} (k : Ev g r) : Ev (fun n => if p then f n else g n) r :=
  Ev.congr (fun _ => if_neg h) k
theorem impl_within_eq (a l h : Int) : impl_within.f a l h = some (decide (l ≤ a ∧ a ≤ h)) := by
  unfold impl_within.f
  by_cases h1 : l ≤ a
  · rw [if_pos h1]; simp [h1]
  · rw [if_neg h1]; simp [h1]

/-! ### lists of lists of whole numbers: read -/
theorem rdI_mid (A : List Int) (x : Int) (B : List Int) : rd (A ++ x :: B) (A.length : Int) = x := by simp [rd]
theorem rdL_mid (A : List (List Int)) (x : List Int) (B : List (List Int)) : rd_L3 (A ++ x :: B) (A.length : Int) = x := by simp [rd_L3]
theorem set_midI {α : Type} (A : List α) (x v : α) (B : List α) : (A ++ x :: B).set A.length v = A ++ v :: B := by simp

/-! ### what a right matrix is -/
def inB (x : Int) : Bool := decide (0 ≤ x ∧ x ≤ 255)
def okR (n : Nat) (r : List Int) : Bool := decide (r.length = n) && r.all inB
def in18 (n : Nat) : Bool := decide (1 ≤ n ∧ n ≤ 8)
def okM (m : List (List Int)) : Bool := in18 m.length && in18 (m.headD []).length && m.all (okR (m.headD []).length)
theorem in18_int (n : Nat) : decide ((1 : Int) ≤ (n : Int) ∧ (n : Int) ≤ 8) = in18 n := by
  unfold in18
  by_cases h : 1 ≤ n ∧ n ≤ 8
  · rw [decide_eq_true h, decide_eq_true (by omega)]
  · rw [decide_eq_false h, decide_eq_false (by omega)]
theorem rdL_zero (m : List (List Int)) : rd_L3 m 0 = m.headD [] := by
  cases m <;> rfl

/-! ### impl.MatrixOk -/
theorem closure_eq (x : Int) : impl_MatrixOk_1.f x = some (!inB x) := by
  unfold impl_MatrixOk_1.f
  rw [impl_within_eq]
  rfl
theorem idx_ev (l : List Int) (hl : l.length ≤ 4611686018427387904) : ∃ r : Int, Ev (fun k => slices_IndexFunc_int_int.f k l) r ∧ decide (r ≥ 0) = !(l.all inB) := by
  have key : ∀ (B A : List Int), l = A ++ B → ∃ r : Int, Ev (fun k => slices_IndexFunc_int_int.l0 k l (l.length : Int) (A.length : Int)) r ∧ decide (r ≥ 0) = !(B.all inB) := by
    intro B
    induction B with
    | nil =>
      intro A h
      refine ⟨-1, Ev.step (f := fun _ => some (-1)) (fun k => ?_) (Ev.now _), rfl⟩
      simp only [slices_IndexFunc_int_int.l0]
      rw [if_neg (by rw [h]; simp)]
    | cons x B ih =>
      intro A h
      have e : l.length = A.length + (B.length + 1) := by rw [h]; simp
      have r : rd l (A.length : Int) = x := by rw [h]; exact rdI_mid A x B
      by_cases hx : inB x = true
      · obtain ⟨q, hq, hq2⟩ := ih (A ++ [x]) (by simp [h])
        refine ⟨q, Ev.step (fun k => ?_) hq, by rw [List.all_cons, hx, Bool.true_and]; exact hq2⟩
        simp only [slices_IndexFunc_int_int.l0]
        rw [if_pos (by omega), if_pos (by omega), if_pos (by omega), r, closure_eq, hx, Option.bind_some, if_neg (by simp), wsucc (by omega)]
        simp
      · refine ⟨(A.length : Int), Ev.step (f := fun _ => some (A.length : Int)) (fun k => ?_) (Ev.now _), ?_⟩
        · simp only [slices_IndexFunc_int_int.l0]
          rw [if_pos (by omega), if_pos (by omega), if_pos (by omega), r, closure_eq, Option.bind_some, if_pos (by simp [hx])]
        · rw [List.all_cons, Bool.eq_false_iff.mpr hx, decide_eq_true (by omega)]
          rfl
  exact key l [] rfl
theorem cont_ev (l : List Int) (hl : l.length ≤ 4611686018427387904) : Ev (fun k => slices_ContainsFunc_int_int.f k l) (!(l.all inB)) := by
  obtain ⟨r, h1, h2⟩ := idx_ev l hl
  unfold slices_ContainsFunc_int_int.f
  refine Ev.bind h1 ?_
  rw [h2]
  exact Ev.now _
theorem impl_MatrixOk_ev (m : List (List Int)) (hl : m.length ≤ 4611686018427387904) (hr : ∀ r ∈ m, r.length ≤ 4611686018427387904) : Ev (fun k => impl_MatrixOk.f k m) (okM m) := by
  have key : ∀ (B A : List (List Int)), m = A ++ B → Ev (fun k => impl_MatrixOk.l0 k m m (m.length : Int) (A.length : Int)) (B.all (okR (m.headD []).length)) := by
    intro B
    induction B with
    | nil =>
      intro A h
      refine Ev.step (f := fun _ => some true) (fun k => ?_) (Ev.now _)
      simp only [impl_MatrixOk.l0]
      rw [if_neg (by rw [h]; simp)]
    | cons x B ih =>
      intro A h
      have e : m.length = A.length + (B.length + 1) := by rw [h]; simp
      have r : rd_L3 m (A.length : Int) = x := by rw [h]; exact rdL_mid A x B
      have hx : x.length ≤ 4611686018427387904 := hr x (by rw [h]; simp)
      have z := ih (A ++ [x]) (by simp [h])
      rw [List.all_cons]
      by_cases hn : x.length = (m.headD []).length
      · refine Ev.step (f := fun k => (slices_ContainsFunc_int_int.f k x).bind fun t => if t = true then some false else impl_MatrixOk.l0 k m m (m.length : Int) ((A.length + 1 : Nat) : Int)) (fun k => ?_) (Ev.bind (cont_ev x hx) ?_)
        · simp only [impl_MatrixOk.l0]
          rw [if_pos (by omega), if_pos (by omega), if_pos (by omega), if_pos (by omega), r, rdL_zero, if_pos (by omega), wsucc (by omega)]
        · have hok : okR (m.headD []).length x = x.all inB := by
            unfold okR
            rw [decide_eq_true hn, Bool.true_and]
          rw [hok]
          cases hb : x.all inB with
          | true =>
            refine Ev.neg (by simp) ?_
            simpa using z
          | false => exact Ev.pos (by rfl) (Ev.now _)
      · have hok : okR (m.headD []).length x = false := by
          unfold okR
          rw [decide_eq_false hn, Bool.false_and]
        rw [hok, Bool.false_and]
        refine Ev.step (f := fun _ => some false) (fun k => ?_) (Ev.now _)
        simp only [impl_MatrixOk.l0]
        rw [if_pos (by omega), if_pos (by omega), if_pos (by omega), if_pos (by omega), r, rdL_zero, if_neg (by omega)]
  unfold impl_MatrixOk.f okM
  rw [impl_within_eq, in18_int]
  cases h1 : in18 m.length with
  | false =>
    refine Ev.congr (g := fun k => _) (f := fun k => impl_MatrixOk.j0 k m true) (fun k => ?_) ?_
    · rw [Option.bind_some, if_neg (by simp)]
    · exact Ev.step (f := fun _ => some false) (fun k => by simp only [impl_MatrixOk.j0, if_true]) (Ev.now _)
  | true =>
    have hp : 1 ≤ m.length := (of_decide_eq_true h1).1
    refine Ev.congr (f := fun k => impl_MatrixOk.j0 k m (!in18 (m.headD []).length)) (fun k => ?_) ?_
    · rw [Option.bind_some, if_pos rfl, if_pos (by omega), impl_within_eq, rdL_zero, in18_int, Option.bind_some]
    · cases h2 : in18 (m.headD []).length with
      | false => exact Ev.step (f := fun _ => some false) (fun k => by simp only [impl_MatrixOk.j0, Bool.not_false, if_true]) (Ev.now _)
      | true =>
        refine Ev.step (fun k => ?_) (key m [] rfl)
        simp only [impl_MatrixOk.j0, Bool.not_true, Bool.false_eq_true, if_false]
        rfl

/- Plain law: the field of bytes (polynomials over bits modulo 285), over natural numbers. -/
namespace Gf

/-- One step: times x. -/
def xt (a : Nat) : Nat := if 255 < 2 * a then (2 * a) ^^^ 285 else 2 * a

/-- The product, bit by bit of b. -/
def gm : Nat → Nat → Nat → Nat
  | 0, _, _ => 0
  | n + 1, a, b => (if b % 2 = 1 then a else 0) ^^^ gm n (xt a) (b / 2)

def mul (a b : Nat) : Nat := gm 8 a b

theorem xor_mod2 (a b : Nat) : (a ^^^ b) % 2 = (a % 2 + b % 2) % 2 := by
  have h := Nat.testBit_xor (x := a) (y := b) (i := 0)
  simp only [Nat.testBit_zero] at h
  have hX : (a ^^^ b) % 2 < 2 := Nat.mod_lt _ (by omega)
  have h1 : a % 2 = 0 ∨ a % 2 = 1 := by omega
  have h2 : b % 2 = 0 ∨ b % 2 = 1 := by omega
  generalize (a ^^^ b) % 2 = X at h hX ⊢
  rcases h1 with h1 | h1 <;> rcases h2 with h2 | h2 <;> rw [h1, h2] at h ⊢ <;> simp at h <;> omega

theorem xor_div2 (a b : Nat) : (a ^^^ b) / 2 = (a / 2) ^^^ (b / 2) := Nat.xor_div_two

theorem xor_lt {a b n : Nat} (ha : a < 2 ^ n) (hb : b < 2 ^ n) : a ^^^ b < 2 ^ n := Nat.xor_lt_two_pow ha hb

theorem xt_lt {a : Nat} (h : a < 256) : xt a < 256 := by
  have : ∀ a : Fin 256, xt a.val < 256 := by decide +kernel
  exact this ⟨a, h⟩

theorem two_mul_xor (a b : Nat) : 2 * (a ^^^ b) = (2 * a) ^^^ (2 * b) := by
  have h := Nat.shiftLeft_xor_distrib (a := a) (b := b) (i := 1)
  simp only [Nat.shiftLeft_eq, Nat.pow_one] at h
  rw [Nat.mul_comm 2, Nat.mul_comm 2, Nat.mul_comm 2]
  exact h

theorem top_xor {a b : Nat} (ha : a < 256) (hb : b < 256) : (a ^^^ b) / 128 = (a / 128 + b / 128) % 2 := by
  have h : ((a ^^^ b) >>> 7) = (a >>> 7) ^^^ (b >>> 7) := Nat.shiftRight_xor_distrib
  simp only [Nat.shiftRight_eq_div_pow] at h
  have h1 : a / 2 ^ 7 < 2 := by omega
  have h2 : b / 2 ^ 7 < 2 := by omega
  have h3 := xor_mod2 (a / 2 ^ 7) (b / 2 ^ 7)
  have h4 : (a / 2 ^ 7) ^^^ (b / 2 ^ 7) < 2 ^ 1 := xor_lt (by omega) (by omega)
  omega

theorem xt_eq {a : Nat} (h : a < 256) : xt a = (2 * a) ^^^ (if a / 128 = 1 then 285 else 0) := by
  unfold xt
  by_cases h1 : 255 < 2 * a
  · rw [if_pos h1, if_pos (by omega)]
  · rw [if_neg h1, if_neg (by omega), Nat.xor_zero]

theorem xt_xor {a b : Nat} (ha : a < 256) (hb : b < 256) : xt (a ^^^ b) = xt a ^^^ xt b := by
  have hab : a ^^^ b < 256 := xor_lt (n := 8) ha hb
  rw [xt_eq ha, xt_eq hb, xt_eq hab, two_mul_xor, top_xor ha hb]
  have h1 : a / 128 = 0 ∨ a / 128 = 1 := by omega
  have h2 : b / 128 = 0 ∨ b / 128 = 1 := by omega
  rcases h1 with h1 | h1 <;> rcases h2 with h2 | h2 <;> rw [h1, h2] <;> simp
  · ac_rfl
  · ac_rfl
  · rw [show (2 * a ^^^ 285) ^^^ (2 * b ^^^ 285) = (285 ^^^ 285) ^^^ (2 * a ^^^ 2 * b) by ac_rfl, Nat.xor_self, Nat.zero_xor]

theorem gm_lt (n : Nat) : ∀ {a : Nat} (b : Nat), a < 256 → gm n a b < 256 := by
  induction n with
  | zero => intro a b _; simp [gm]
  | succ n ih =>
    intro a b h
    unfold gm
    refine xor_lt (n := 8) ?_ (ih _ (xt_lt h))
    split <;> omega

theorem gm_xor_left (n : Nat) : ∀ {a c : Nat} (b : Nat), a < 256 → c < 256 → gm n (a ^^^ c) b = gm n a b ^^^ gm n c b := by
  induction n with
  | zero => intro a c b _ _; simp [gm]
  | succ n ih =>
    intro a c b ha hc
    simp only [gm]
    rw [xt_xor ha hc, ih _ (xt_lt ha) (xt_lt hc)]
    by_cases h : b % 2 = 1
    · simp only [if_pos h]; ac_rfl
    · simp only [if_neg h, Nat.zero_xor]

theorem gm_xor_right (n : Nat) : ∀ (a b c : Nat), gm n a (b ^^^ c) = gm n a b ^^^ gm n a c := by
  induction n with
  | zero => intro a b c; simp [gm]
  | succ n ih =>
    intro a b c
    simp only [gm]
    rw [xor_div2, ih, xor_mod2]
    have h1 : b % 2 = 0 ∨ b % 2 = 1 := by omega
    have h2 : c % 2 = 0 ∨ c % 2 = 1 := by omega
    rcases h1 with h1 | h1 <;> rcases h2 with h2 | h2 <;> rw [h1, h2] <;> simp
    · rw [← Nat.xor_assoc, Nat.xor_comm a, Nat.xor_assoc]
    · rw [Nat.xor_assoc]
    · have : a ^^^ gm n (xt a) (b / 2) ^^^ (a ^^^ gm n (xt a) (c / 2)) = (a ^^^ a) ^^^ (gm n (xt a) (b / 2) ^^^ gm n (xt a) (c / 2)) := by ac_rfl
      rw [this, Nat.xor_self, Nat.zero_xor]

theorem mul_lt {a : Nat} (b : Nat) (h : a < 256) : mul a b < 256 := gm_lt 8 b h
theorem mul_xor_left {a c : Nat} (b : Nat) (ha : a < 256) (hc : c < 256) : mul (a ^^^ c) b = mul a b ^^^ mul c b := gm_xor_left 8 b ha hc
theorem mul_xor_right (a b c : Nat) : mul a (b ^^^ c) = mul a b ^^^ mul a c := gm_xor_right 8 a b c

/-- Two functions that go through sums are one, if they are at the powers of two. -/
theorem add_ext (f g : Nat → Nat) (h0 : f 0 = g 0) (hf : ∀ a b, a < 256 → b < 256 → f (a ^^^ b) = f a ^^^ f b) (hg : ∀ a b, a < 256 → b < 256 → g (a ^^^ b) = g a ^^^ g b)
    (h : ∀ i, i < 8 → f (2 ^ i) = g (2 ^ i)) : ∀ a, a < 256 → f a = g a := by
  have key : ∀ n, n ≤ 8 → ∀ a, a < 2 ^ n → f a = g a := by
    intro n
    induction n with
    | zero =>
      intro _ a ha
      have : a = 0 := by omega
      rw [this, h0]
    | succ n ih =>
      intro hn a ha
      by_cases hlt : a < 2 ^ n
      · exact ih (by omega) a hlt
      · have h256 : 2 ^ (n + 1) ≤ 2 ^ 8 := Nat.pow_le_pow_right (by omega) hn
        have hs : 2 ^ (n + 1) = 2 * 2 ^ n := by rw [Nat.pow_succ]; omega
        have hr : a - 2 ^ n < 2 ^ n := by omega
        have he : a = 2 ^ n ^^^ (a - 2 ^ n) := by
          have h1 : 2 ^ n + (a - 2 ^ n) = 2 ^ n ^^^ (a - 2 ^ n) := by
            have := Nat.two_pow_add_eq_or_of_lt (i := n) (b := a - 2 ^ n) hr 1
            have h2 : (2 ^ n ||| (a - 2 ^ n)) = 2 ^ n ^^^ (a - 2 ^ n) := by
              apply Nat.eq_of_testBit_eq
              intro j
              rw [Nat.testBit_or, Nat.testBit_xor, Nat.testBit_two_pow]
              by_cases hj : n = j
              · subst hj
                rw [Nat.testBit_lt_two_pow hr]
                simp
              · simp [hj]
            rw [← h2]
            simpa using this
          omega
        rw [he, hf _ _ (by omega) (by omega), hg _ _ (by omega) (by omega), h n (by omega), ih (by omega) _ hr]
  intro a ha
  exact key 8 (Nat.le_refl _) a (by simpa using ha)

theorem mul_zero_right (a : Nat) : mul a 0 = 0 := by
  have : ∀ n a, gm n a 0 = 0 := by
    intro n
    induction n with
    | zero => intro a; rfl
    | succ n ih => intro a; simp [gm, ih]
  exact this 8 a
theorem mul_zero_left (b : Nat) : mul 0 b = 0 := by
  have : ∀ n b, gm n 0 b = 0 := by
    intro n
    induction n with
    | zero => intro b; rfl
    | succ n ih => intro b; simp [gm, xt, ih]
  exact this 8 b

theorem pow2_lt {i : Nat} (h : i < 8) : 2 ^ i < 256 := by
  have : 2 ^ i < 2 ^ 8 := Nat.pow_lt_pow_right (by omega) h
  omega

theorem mul_comm {a b : Nat} (ha : a < 256) (hb : b < 256) : mul a b = mul b a := by
  have base : ∀ i : Fin 8, ∀ j : Fin 8, mul (2 ^ i.val) (2 ^ j.val) = mul (2 ^ j.val) (2 ^ i.val) := by decide +kernel
  have step : ∀ i, i < 8 → ∀ b, b < 256 → mul (2 ^ i) b = mul b (2 ^ i) := by
    intro i hi
    refine add_ext (fun b => mul (2 ^ i) b) (fun b => mul b (2 ^ i)) ?_ ?_ ?_ ?_
    · show mul _ _ = mul _ _
      rw [mul_zero_right, mul_zero_left]
    · intro a b _ _; exact mul_xor_right _ _ _
    · intro a b ha hb; exact mul_xor_left _ ha hb
    · intro j hj; exact base ⟨i, hi⟩ ⟨j, hj⟩
  refine add_ext (fun a => mul a b) (fun a => mul b a) ?_ ?_ ?_ ?_ a ha
  · show mul _ _ = mul _ _
    rw [mul_zero_right, mul_zero_left]
  · intro a c ha hc; exact mul_xor_left _ ha hc
  · intro a c _ _; exact mul_xor_right _ _ _
  · intro i hi; exact step i hi b hb

theorem mul_assoc {a b c : Nat} (ha : a < 256) (hb : b < 256) (hc : c < 256) : mul (mul a b) c = mul a (mul b c) := by
  have base : ∀ i j k : Fin 8, mul (mul (2 ^ i.val) (2 ^ j.val)) (2 ^ k.val) = mul (2 ^ i.val) (mul (2 ^ j.val) (2 ^ k.val)) := by decide +kernel
  have s1 : ∀ i, i < 8 → ∀ j, j < 8 → ∀ c, c < 256 → mul (mul (2 ^ i) (2 ^ j)) c = mul (2 ^ i) (mul (2 ^ j) c) := by
    intro i hi j hj
    refine add_ext (fun c => mul (mul (2 ^ i) (2 ^ j)) c) (fun c => mul (2 ^ i) (mul (2 ^ j) c)) ?_ ?_ ?_ ?_
    · show mul _ _ = mul _ _
      rw [mul_zero_right, mul_zero_right, mul_zero_right]
    · intro a b _ _; exact mul_xor_right _ _ _
    · intro a b _ _
      show mul _ (mul _ _) = mul _ (mul _ _) ^^^ mul _ (mul _ _)
      rw [mul_xor_right, mul_xor_right]
    · intro k hk; exact base ⟨i, hi⟩ ⟨j, hj⟩ ⟨k, hk⟩
  have s2 : ∀ i, i < 8 → ∀ b, b < 256 → mul (mul (2 ^ i) b) c = mul (2 ^ i) (mul b c) := by
    intro i hi
    refine add_ext (fun b => mul (mul (2 ^ i) b) c) (fun b => mul (2 ^ i) (mul b c)) ?_ ?_ ?_ ?_
    · show mul (mul _ _) _ = mul _ (mul _ _)
      rw [mul_zero_right, mul_zero_left, mul_zero_right]
    · intro a b ha hb
      show mul (mul _ _) _ = mul (mul _ _) _ ^^^ mul (mul _ _) _
      rw [mul_xor_right, mul_xor_left _ (mul_lt _ (pow2_lt hi)) (mul_lt _ (pow2_lt hi))]
    · intro a b ha hb
      show mul _ (mul _ _) = mul _ (mul _ _) ^^^ mul _ (mul _ _)
      rw [mul_xor_left _ ha hb, mul_xor_right]
    · intro j hj; exact s1 i hi j hj c hc
  refine add_ext (fun a => mul (mul a b) c) (fun a => mul a (mul b c)) ?_ ?_ ?_ ?_ a ha
  · show mul (mul _ _) _ = mul _ (mul _ _)
    rw [mul_zero_left, mul_zero_left, mul_zero_left]
  · intro x y hx hy
    show mul (mul _ _) _ = mul (mul _ _) _ ^^^ mul (mul _ _) _
    rw [mul_xor_left _ hx hy, mul_xor_left _ (mul_lt _ hx) (mul_lt _ hy)]
  · intro x y hx hy; exact mul_xor_left _ hx hy
  · intro i hi; exact s2 i hi b hb

theorem mul_one_right {a : Nat} : mul a 1 = a := by
  unfold mul
  simp only [gm]
  simp

theorem mul_one_left {a : Nat} (h : a < 256) : mul 1 a = a := by
  rw [mul_comm (by omega) h, mul_one_right]

def pow (a : Nat) : Nat → Nat
  | 0 => 1
  | n + 1 => mul (pow a n) a

theorem pow_lt {a : Nat} (h : a < 256) : ∀ n, pow a n < 256
  | 0 => by simp [pow]
  | n + 1 => mul_lt _ (pow_lt h n)

theorem pow_add {a : Nat} (h : a < 256) (n m : Nat) : pow a (n + m) = mul (pow a n) (pow a m) := by
  induction m with
  | zero => simp [pow, mul_one_right]
  | succ m ih =>
    show mul (pow a (n + m)) a = mul (pow a n) (mul (pow a m) a)
    rw [ih, mul_assoc (pow_lt h n) (pow_lt h m) h]

def sq (a : Nat) : Nat := mul a a
/-- a 254 times, by squares. -/
def inv254 (a : Nat) : Nat :=
  let a2 := sq a
  let a4 := sq a2
  let a8 := sq a4
  let a16 := sq a8
  let a32 := sq a16
  let a64 := sq a32
  let a128 := sq a64
  mul (mul (mul (mul (mul (mul a128 a64) a32) a16) a8) a4) a2

theorem pow_dbl {a : Nat} (h : a < 256) (n : Nat) : pow a (n + n) = sq (pow a n) := pow_add h n n

theorem pow_254 {a : Nat} (h : a < 256) : pow a 254 = inv254 a := by
  have p1 : pow a 1 = a := by show mul 1 a = a; exact mul_one_left h
  have p2 : pow a 2 = sq a := by rw [show (2 : Nat) = 1 + 1 from rfl, pow_dbl h, p1]
  have p4 : pow a 4 = sq (sq a) := by rw [show (4 : Nat) = 2 + 2 from rfl, pow_dbl h, p2]
  have p8 : pow a 8 = sq (sq (sq a)) := by rw [show (8 : Nat) = 4 + 4 from rfl, pow_dbl h, p4]
  have p16 : pow a 16 = sq (sq (sq (sq a))) := by rw [show (16 : Nat) = 8 + 8 from rfl, pow_dbl h, p8]
  have p32 : pow a 32 = sq (sq (sq (sq (sq a)))) := by rw [show (32 : Nat) = 16 + 16 from rfl, pow_dbl h, p16]
  have p64 : pow a 64 = sq (sq (sq (sq (sq (sq a))))) := by rw [show (64 : Nat) = 32 + 32 from rfl, pow_dbl h, p32]
  have p128 : pow a 128 = sq (sq (sq (sq (sq (sq (sq a)))))) := by rw [show (128 : Nat) = 64 + 64 from rfl, pow_dbl h, p64]
  rw [show (254 : Nat) = 128 + 64 + 32 + 16 + 8 + 4 + 2 from rfl, pow_add h, pow_add h, pow_add h, pow_add h, pow_add h, pow_add h, p128, p64, p32, p16, p8, p4, p2]
  rfl

theorem mul_inv {a : Nat} (h : a < 256) (h0 : a ≠ 0) : mul a (pow a 254) = 1 := by
  rw [pow_254 h]
  have key : ∀ a : Fin 256, a.val ≠ 0 → mul a.val (inv254 a.val) = 1 := by decide +kernel
  exact key ⟨a, h⟩ h0

/-- What is 1 with a is a 254 times. -/
theorem inv_unique {a b : Nat} (ha : a < 256) (hb : b < 256) (h : mul a b = 1) : b = pow a 254 := by
  have h0 : a ≠ 0 := by
    rintro rfl
    rw [mul_zero_left] at h
    omega
  have hp := pow_lt ha 254
  have h1 : mul (mul (pow a 254) a) b = b := by
    rw [mul_comm hp ha, mul_inv ha h0, mul_one_left hb]
  rw [mul_assoc hp ha hb, h, mul_one_right] at h1
  exact h1.symm

end Gf

/-! ### products of bytes -/
def modb (a : Int) : Nat := (a % 256).toNat
theorem modb_lt (a : Int) : modb a < 256 := by unfold modb; omega
theorem modb_nat {a : Nat} (h : a < 256) : modb (a : Int) = a := by unfold modb; omega
theorem bits_xor64 {a b : Nat} (ha : a < 2 ^ 63) (hb : b < 2 ^ 63) : Go.bits .xor .i64 (a : Int) (b : Int) = ((a ^^^ b : Nat) : Int) := by
  have hx : a ^^^ b < 2 ^ 63 := Nat.xor_lt_two_pow ha hb
  have e : (BitVec.ofNat 64 a ^^^ BitVec.ofNat 64 b).toNat = a ^^^ b := by rw [BitVec.toNat_xor, BitVec.toNat_ofNat, BitVec.toNat_ofNat, Nat.mod_eq_of_lt (by omega), Nat.mod_eq_of_lt (by omega)]
  show IntKind.i64.wrap (((BitVec.ofInt 64 (a : Int)) ^^^ (BitVec.ofInt 64 (b : Int))).toNat : Int) = _
  rw [BitVec.ofInt_natCast, BitVec.ofInt_natCast, e, IntKind.wrap_i64]
  omega
theorem bits_and255 {a : Int} (h0 : -9223372036854775808 ≤ a) (h1 : a ≤ 9223372036854775807) : Go.bits .and .i64 a 255 = ((modb a : Nat) : Int) := by
  have e : ((BitVec.ofInt 64 a) &&& (BitVec.ofInt 64 255)).toNat = (a % 18446744073709551616).toNat % 256 := by
    rw [BitVec.toNat_and, BitVec.toNat_ofInt, show (BitVec.ofInt 64 255).toNat = 2 ^ 8 - 1 by decide, Nat.and_two_pow_sub_one_eq_mod]
    rfl
  show IntKind.i64.wrap (((BitVec.ofInt 64 a) &&& (BitVec.ofInt 64 255)).toNat : Int) = _
  rw [e, IntKind.wrap_i64]
  unfold modb
  omega
theorem bits_and1 {b : Nat} (h : b < 256) : Go.bits .and .i64 (b : Int) 1 = ((b % 2 : Nat) : Int) := by
  have e : ((BitVec.ofInt 64 (b : Int)) &&& (BitVec.ofInt 64 1)).toNat = b % 2 := by
    rw [BitVec.toNat_and, BitVec.ofInt_natCast, BitVec.toNat_ofNat, show (BitVec.ofInt 64 1).toNat = 2 ^ 1 - 1 by decide, Nat.and_two_pow_sub_one_eq_mod]
    show b % 2 ^ 64 % 2 ^ 1 = b % 2
    omega
  show IntKind.i64.wrap (((BitVec.ofInt 64 (b : Int)) &&& (BitVec.ofInt 64 1)).toNat : Int) = _
  rw [e, IntKind.wrap_i64]
  omega
def gmul (a b : Int) : Int := ((Gf.mul (modb a) (modb b) : Nat) : Int)
theorem gmul_range (a b : Int) : 0 ≤ gmul a b ∧ gmul a b ≤ 255 := by
  unfold gmul
  have := Gf.mul_lt (modb b) (modb_lt a)
  omega
theorem impl_MulG_l0 (n : Nat) : ∀ (a b out : Nat), a < 256 → b < 2 ^ n → n ≤ 8 → out < 256 → Ev (fun k => impl_MulG.l0 k (a : Int) (b : Int) (out : Int)) ((out ^^^ Gf.gm n a b : Nat) : Int) := by
  induction n with
  | zero =>
    intro a b out ha hb hn ho
    have hb0 : b = 0 := by omega
    subst hb0
    exact Ev.step (f := fun _ => some (out : Int)) (fun k => by simp only [impl_MulG.l0]; rw [if_neg (by omega)]) (by simpa [Gf.gm] using Ev.now _)
  | succ n ih =>
    intro a b out ha hb hn ho
    by_cases hb0 : b = 0
    · subst hb0
      have hz : Gf.gm (n + 1) a 0 = 0 := by
        have : ∀ n a, Gf.gm n a 0 = 0 := by
          intro n
          induction n with
          | zero => intro a; rfl
          | succ n ih => intro a; simp [Gf.gm, ih]
        exact this _ _
      rw [hz, Nat.xor_zero]
      exact Ev.step (f := fun _ => some (out : Int)) (fun k => by simp only [impl_MulG.l0]; rw [if_neg (by omega)]) (Ev.now _)
    · have h8 : 2 ^ n ≤ 2 ^ 8 := Nat.pow_le_pow_right (by omega) (by omega)
      have h9 : 2 ^ (n + 1) = 2 * 2 ^ n := by rw [Nat.pow_succ]; omega
      have h10 : 2 ^ (n + 1) ≤ 2 ^ 8 := Nat.pow_le_pow_right (by omega) hn
      have hm : Go.bits .and .i64 (b : Int) 1 = ((b % 2 : Nat) : Int) := bits_and1 (by omega)
      have hd : (b : Int) / 2 = ((b / 2 : Nat) : Int) := rfl
      have h2 : wrap64 ((a : Int) * 2) = ((2 * a : Nat) : Int) := by rw [w64 (by omega) (by omega)]; omega
      have hx : (out ^^^ (if b % 2 = 1 then a else 0) ^^^ Gf.gm n (Gf.xt a) (b / 2)) = (out ^^^ Gf.gm (n + 1) a b) := by
        rw [Gf.gm, Nat.xor_assoc]
      have hxa : Go.bits .xor .i64 (out : Int) (a : Int) = ((out ^^^ a : Nat) : Int) := bits_xor64 (by omega) (by omega)
      have hx5 : Go.bits .xor .i64 ((2 * a : Nat) : Int) 285 = ((2 * a ^^^ 285 : Nat) : Int) := bits_xor64 (b := 285) (by omega) (by omega)
      rw [← hx]
      have hlt : out ^^^ (if b % 2 = 1 then a else 0) < 256 := Gf.xor_lt (n := 8) ho (by split <;> omega)
      refine Ev.step (f := fun k => impl_MulG.l0 k ((Gf.xt a : Nat) : Int) ((b / 2 : Nat) : Int) ((out ^^^ (if b % 2 = 1 then a else 0) : Nat) : Int)) (fun k => ?_) (ih _ _ _ (Gf.xt_lt ha) (by omega) (by omega) hlt)
      simp only [impl_MulG.l0, hm, hd, h2, hxa, hx5]
      rw [if_pos (by omega)]
      unfold Gf.xt
      by_cases c1 : b % 2 = 1 <;> by_cases c2 : 255 < 2 * a
      · rw [if_pos (by omega), if_pos (by omega), if_pos c1, if_pos c2]
      · rw [if_pos (by omega), if_neg (by omega), if_pos c1, if_neg c2]
      · rw [if_neg (by omega), if_pos (by omega), if_neg c1, if_pos c2, Nat.xor_zero]
      · rw [if_neg (by omega), if_neg (by omega), if_neg c1, if_neg c2, Nat.xor_zero]
theorem impl_MulG_ev {a b : Int} (a0 : -9223372036854775808 ≤ a) (a1 : a ≤ 9223372036854775807) (b0 : -9223372036854775808 ≤ b) (b1 : b ≤ 9223372036854775807) : Ev (fun k => impl_MulG.f k a b) (gmul a b) := by
  have h := impl_MulG_l0 8 (modb a) (modb b) 0 (modb_lt a) (modb_lt b) (Nat.le_refl _) (by omega)
  rw [Nat.zero_xor] at h
  refine Ev.congr (fun k => ?_) h
  unfold impl_MulG.f
  rw [bits_and255 a0 a1, bits_and255 b0 b1]
  rfl

/-! ### inverses -/
def ginv (a : Int) : Int := if modb a = 0 then 0 else ((Gf.pow (modb a) 254 : Nat) : Int)
theorem gmul_nat {a : Int} {b : Nat} (hb : b < 256) : gmul a (b : Int) = ((Gf.mul (modb a) b : Nat) : Int) := by
  unfold gmul
  rw [modb_nat hb]
theorem impl_InvG_l0 {a : Int} (a0 : -9223372036854775808 ≤ a) (a1 : a ≤ 9223372036854775807) (d : Nat) : ∀ b : Nat, 1 ≤ b → b ≤ 256 → 256 - b = d → (∀ c, 1 ≤ c → c < b → Gf.mul (modb a) c ≠ 1) → Ev (fun k => impl_InvG.l0 k a (b : Int)) (ginv a) := by
  have hl := modb_lt a
  induction d with
  | zero =>
    intro b h1 h2 hd hno
    obtain rfl : b = 256 := by omega
    have hz : modb a = 0 := by
      refine Decidable.byContradiction fun h => ?_
      have hm := Gf.mul_inv hl h
      have hp := Gf.pow_lt hl 254
      have h0 : Gf.pow (modb a) 254 ≠ 0 := by
        intro h0
        rw [h0, Gf.mul_zero_right] at hm
        omega
      exact hno _ (by omega) hp hm
    unfold ginv
    rw [if_pos hz]
    exact Ev.step (f := fun _ => some 0) (fun k => by simp only [impl_InvG.l0]; rw [if_neg (by omega)]) (Ev.now _)
  | succ d ih =>
    intro b h1 h2 hd hno
    refine Ev.step (f := fun k => (impl_MulG.f k a (b : Int)).bind fun t => if t = 1 then some (b : Int) else impl_InvG.l0 k a ((b + 1 : Nat) : Int)) (fun k => ?_) (Ev.bind (impl_MulG_ev a0 a1 (by omega) (by omega)) ?_)
    · simp only [impl_InvG.l0]
      rw [if_pos (by omega), wsucc (by omega)]
    · rw [gmul_nat (by omega)]
      by_cases h : Gf.mul (modb a) b = 1
      · simp only [h]
        have hb := Gf.inv_unique hl (show b < 256 by omega) h
        have h0 : modb a ≠ 0 := by
          intro h0
          rw [h0, Gf.mul_zero_left] at h
          omega
        have e : ginv a = (b : Int) := by
          unfold ginv
          rw [if_neg h0, ← hb]
        rw [e]
        simp only [Int.natCast_one, if_true]
        exact Ev.now _
      · simp only [if_neg (show ¬ ((Gf.mul (modb a) b : Nat) : Int) = 1 by omega)]
        refine ih (b + 1) (by omega) (by omega) (by omega) (fun c hc hc2 => ?_)
        by_cases hcb : c = b
        · rw [hcb]; exact h
        · exact hno c hc (by omega)
theorem impl_InvG_ev {a : Int} (a0 : -9223372036854775808 ≤ a) (a1 : a ≤ 9223372036854775807) : Ev (fun k => impl_InvG.f k a) (ginv a) :=
  impl_InvG_l0 a0 a1 255 1 (by omega) (by omega) (by omega) (fun c h1 h2 => by omega)

/-! ### matrices of bytes -/
def xs : Nat → (Nat → Nat) → Nat
  | 0, _ => 0
  | n + 1, h => xs n h ^^^ h n
theorem xs_lt {h : Nat → Nat} : ∀ {n : Nat}, (∀ k, k < n → h k < 256) → xs n h < 256
  | 0, _ => by simp [xs]
  | n + 1, H => Gf.xor_lt (n := 8) (xs_lt (fun k hk => H k (by omega))) (H n (by omega))
theorem xs_congr {f g : Nat → Nat} : ∀ {n : Nat}, (∀ k, k < n → f k = g k) → xs n f = xs n g
  | 0, _ => rfl
  | n + 1, H => by rw [xs, xs, xs_congr (fun k hk => H k (by omega)), H n (by omega)]
theorem xs_zero : ∀ n : Nat, xs n (fun _ => 0) = 0
  | 0 => rfl
  | n + 1 => by rw [xs, xs_zero n, Nat.xor_self]
theorem xs_xor (f g : Nat → Nat) : ∀ n : Nat, xs n (fun k => f k ^^^ g k) = xs n f ^^^ xs n g
  | 0 => by simp [xs]
  | n + 1 => by
    rw [xs, xs, xs, xs_xor f g n]
    ac_rfl
theorem mul_xs (a : Nat) (h : Nat → Nat) : ∀ n : Nat, Gf.mul a (xs n h) = xs n (fun k => Gf.mul a (h k))
  | 0 => Gf.mul_zero_right a
  | n + 1 => by rw [xs, xs, Gf.mul_xor_right, mul_xs a h n]
theorem xs_mul (b : Nat) {h : Nat → Nat} : ∀ {n : Nat}, (∀ k, k < n → h k < 256) → Gf.mul (xs n h) b = xs n (fun k => Gf.mul (h k) b)
  | 0, _ => Gf.mul_zero_left b
  | n + 1, H => by rw [xs, xs, Gf.mul_xor_left b (xs_lt (fun k hk => H k (by omega))) (H n (by omega)), xs_mul b (fun k hk => H k (by omega))]
theorem xs_swap (m : Nat) (h : Nat → Nat → Nat) : ∀ n : Nat, xs n (fun k => xs m (fun l => h k l)) = xs m (fun l => xs n (fun k => h k l))
  | 0 => (xs_zero m).symm
  | n + 1 => by
    rw [xs, xs_swap m h n]
    exact (xs_xor _ _ m).symm
theorem xs_off {j : Nat} (f : Nat → Nat) : ∀ {n : Nat}, n ≤ j → xs n (fun k => if k = j then f k else 0) = 0
  | 0, _ => rfl
  | n + 1, h => by rw [xs, xs_off f (by omega), if_neg (by omega), Nat.xor_self]
theorem xs_one {j : Nat} (f : Nat → Nat) : ∀ {n : Nat}, j < n → xs n (fun k => if k = j then f k else 0) = f j
  | n + 1, h => by
    rw [xs]
    by_cases e : n = j
    · subst e
      rw [if_pos rfl, xs_off f (Nat.le_refl _), Nat.zero_xor]
    · rw [if_neg e, xs_one f (by omega), Nat.xor_zero]
def mk (r c : Nat) (f : Nat → Nat → Nat) : List (List Int) := (List.range r).map fun i => (List.range c).map fun j => ((f i j : Nat) : Int)
def ent (m : List (List Int)) (i j : Nat) : Nat := ((m.getD i []).getD j 0).toNat
theorem mk_length (r c : Nat) (f : Nat → Nat → Nat) : (mk r c f).length = r := by simp [mk]
theorem mk_get (r c : Nat) (f : Nat → Nat → Nat) {i : Nat} (hi : i < r) : (mk r c f).getD i [] = (List.range c).map fun j => ((f i j : Nat) : Int) := by
  unfold mk
  rw [List.getD_eq_getElem?_getD, List.getElem?_map, List.getElem?_range hi]
  rfl
theorem headD_getD (m : List (List Int)) : m.headD [] = m.getD 0 [] := by cases m <;> rfl
theorem mk_head (r c : Nat) (f : Nat → Nat → Nat) (hr : 0 < r) : ((mk r c f).headD []).length = c := by rw [headD_getD, mk_get r c f hr]; simp
theorem ent_mk (r c : Nat) (f : Nat → Nat → Nat) {i j : Nat} (hi : i < r) (hj : j < c) : ent (mk r c f) i j = f i j := by
  unfold ent
  rw [mk_get r c f hi, List.getD_eq_getElem?_getD, List.getElem?_map, List.getElem?_range hj]
  rfl
theorem mk_congr {r c : Nat} {f g : Nat → Nat → Nat} (H : ∀ i, i < r → ∀ j, j < c → f i j = g i j) : mk r c f = mk r c g := by
  unfold mk
  refine List.map_congr_left (fun i hi => List.map_congr_left (fun j hj => ?_))
  rw [H i (List.mem_range.mp hi) j (List.mem_range.mp hj)]
theorem okM_mk {r c : Nat} {f : Nat → Nat → Nat} (h1 : 1 ≤ r) (h2 : r ≤ 8) (h3 : 1 ≤ c) (h4 : c ≤ 8) (H : ∀ i, i < r → ∀ j, j < c → f i j < 256) : okM (mk r c f) = true := by
  unfold okM
  rw [mk_length, mk_head r c f (by omega)]
  have e1 : in18 r = true := decide_eq_true ⟨h1, h2⟩
  have e2 : in18 c = true := decide_eq_true ⟨h3, h4⟩
  rw [e1, e2, Bool.true_and, Bool.true_and, List.all_eq_true]
  intro x hx
  unfold mk at hx
  obtain ⟨i, hi, rfl⟩ := List.mem_map.mp hx
  unfold okR
  rw [Bool.and_eq_true]
  refine ⟨by simp, ?_⟩
  rw [List.all_eq_true]
  intro y hy
  obtain ⟨j, hj, rfl⟩ := List.mem_map.mp hy
  have := H i (List.mem_range.mp hi) j (List.mem_range.mp hj)
  unfold inB
  exact decide_eq_true (by omega)
theorem of_okM {m : List (List Int)} (h : okM m = true) : 1 ≤ m.length ∧ m.length ≤ 8 ∧ 1 ≤ (m.headD []).length ∧ (m.headD []).length ≤ 8 ∧ (∀ i, i < m.length → (m.getD i []).length = (m.headD []).length ∧ ∀ x ∈ m.getD i [], 0 ≤ x ∧ x ≤ 255) := by
  unfold okM at h
  rw [Bool.and_eq_true, Bool.and_eq_true] at h
  obtain ⟨⟨h1, h2⟩, h3⟩ := h
  have h1 := of_decide_eq_true h1
  have h2 := of_decide_eq_true h2
  refine ⟨h1.1, h1.2, h2.1, h2.2, fun i hi => ?_⟩
  rw [List.all_eq_true] at h3
  have e : m.getD i [] = m[i] := by rw [List.getD_eq_getElem?_getD, List.getElem?_eq_getElem hi]; rfl
  have h4 := h3 _ (List.getElem_mem hi)
  unfold okR at h4
  rw [Bool.and_eq_true] at h4
  rw [e]
  refine ⟨of_decide_eq_true h4.1, fun x hx => ?_⟩
  exact of_decide_eq_true (List.all_eq_true.mp h4.2 x hx)
theorem rd_ent {m : List (List Int)} (h : okM m = true) {i j : Nat} (hi : i < m.length) (hj : j < (m.headD []).length) : rd (rd_L3 m (i : Int)) (j : Int) = ((ent m i j : Nat) : Int) ∧ ent m i j < 256 := by
  obtain ⟨_, _, _, _, H⟩ := of_okM h
  obtain ⟨h1, h2⟩ := H i hi
  unfold rd rd_L3 ent
  rw [Int.toNat_natCast, Int.toNat_natCast]
  have hj' : j < (m.getD i []).length := by omega
  have e : (m.getD i []).getD j 0 = (m.getD i [])[j] := by rw [List.getD_eq_getElem?_getD, List.getElem?_eq_getElem hj']; rfl
  have := h2 _ (List.getElem_mem hj')
  rw [e]
  omega
theorem rdL_len {m : List (List Int)} (h : okM m = true) {i : Nat} (hi : i < m.length) : (rd_L3 m (i : Int)).length = (m.headD []).length := by
  obtain ⟨_, _, _, _, H⟩ := of_okM h
  unfold rd_L3
  rw [Int.toNat_natCast]
  exact (H i hi).1
theorem eq_mk {m : List (List Int)} (h : okM m = true) : m = mk m.length (m.headD []).length (ent m) := by
  obtain ⟨_, _, _, _, H⟩ := of_okM h
  refine List.ext_getElem (by rw [mk_length]) (fun i h1 h2 => ?_)
  have e : m[i] = m.getD i [] := by rw [List.getD_eq_getElem?_getD, List.getElem?_eq_getElem h1]; rfl
  have e2 : (mk m.length (m.headD []).length (ent m))[i] = (mk m.length (m.headD []).length (ent m)).getD i [] := by rw [List.getD_eq_getElem?_getD, List.getElem?_eq_getElem h2]; rfl
  rw [e, e2, mk_get _ _ _ h1]
  obtain ⟨h3, h4⟩ := H i h1
  refine List.ext_getElem (by simpa using h3) (fun j h5 h6 => ?_)
  have := h4 _ (List.getElem_mem h5)
  have h8 : (m.getD i []).getD j 0 = (m.getD i [])[j] := by rw [List.getD_eq_getElem?_getD (l := m.getD i []), List.getElem?_eq_getElem h5]; rfl
  have h7 : ent m i j = ((m.getD i [])[j]).toNat := by unfold ent; rw [h8]
  rw [List.getElem_map, List.getElem_range, h7]
  omega
theorem gmul_nn {a b : Nat} (ha : a < 256) (hb : b < 256) : gmul (a : Int) (b : Int) = ((Gf.mul a b : Nat) : Int) := by
  unfold gmul
  rw [modb_nat ha, modb_nat hb]
theorem range_map_succ {α : Type} (F : Nat → α) (n : Nat) : (List.range (n + 1)).map F = (List.range n).map F ++ [F n] := by rw [List.range_succ, List.map_append]; rfl
theorem mul_lt_of {n : Nat} {f g : Nat → Nat} (hf : ∀ k, k < n → f k < 256) : xs n (fun k => Gf.mul (f k) (g k)) < 256 := xs_lt (fun k hk => Gf.mul_lt _ (hf k hk))
def idf (i j : Nat) : Nat := if i = j then 1 else 0
theorem idf_lt (i j : Nat) : idf i j < 256 := by unfold idf; split <;> omega

theorem mk_rows {r c : Nat} {f : Nat → Nat → Nat} {N : Nat} (h : c ≤ N) : ∀ x ∈ mk r c f, x.length ≤ N := by
  intro x hx
  unfold mk at hx
  obtain ⟨i, _, rfl⟩ := List.mem_map.mp hx
  simp
  exact h

/-! ### the matrix of ones -/
def oneR (n : Int) : List (List Int) := if 1 ≤ n ∧ n ≤ 8 then mk n.toNat n.toNat idf else []
theorem one_row {n i : Nat} (hi : i < n) : (List.replicate n (0 : Int)).set i 1 = (List.range n).map fun j => ((idf i j : Nat) : Int) := by
  refine List.ext_getElem (by simp) (fun j h1 h2 => ?_)
  rw [List.getElem_set, List.getElem_map, List.getElem_range]
  unfold idf
  by_cases e : i = j
  · rw [if_pos e, if_pos e]; rfl
  · rw [if_neg e, if_neg e, List.getElem_replicate]; rfl

/-! ### impl.OneM -/
theorem impl_OneM_ev (n : Int) : Ev (fun k => impl_OneM.f k n) (oneR n) := by
  unfold impl_OneM.f oneR
  rw [impl_within_eq]
  refine Ev.some_bind rfl ?_
  by_cases h : 1 ≤ n ∧ n ≤ 8
  · rw [if_pos h]
    refine Ev.pos (decide_eq_true h) ?_
    obtain ⟨N, rfl⟩ := Int.eq_ofNat_of_zero_le (show 0 ≤ n by omega)
    have key : ∀ d i : Nat, i ≤ N → N - i = d → Ev (fun q => impl_OneM.l0 q (N : Int) ((List.range i).map fun i => (List.range N).map fun j => ((idf i j : Nat) : Int)) (i : Int)) (mk N N idf) := by
      intro d
      induction d with
      | zero =>
        intro i hi hd
        obtain rfl : i = N := by omega
        refine Ev.step (f := fun _ => some (mk i i idf)) (fun q => ?_) (Ev.now _)
        simp only [impl_OneM.l0]
        rw [if_neg (by omega)]
        rfl
      | succ d ih =>
        intro i hi hd
        have z := ih (i + 1) (by omega) (by omega)
        rw [range_map_succ] at z
        refine Ev.step (fun q => ?_) z
        simp only [impl_OneM.l0]
        rw [if_pos (by omega), if_pos (by omega), if_pos (by omega), Option.bind_some, if_pos (by omega), Int.toNat_natCast, Int.toNat_natCast, List.length_replicate, if_pos (by omega), if_pos (by simp; omega), wsucc (by omega), one_row (by omega)]
    exact key N 0 (by omega) (by omega)
  · rw [if_neg h]
    exact Ev.neg (by simpa using h) (Ev.now _)

/-! ### inverses by rows -/
def bytesM (n : Nat) (A : Nat → Nat → Nat) : Prop := ∀ i, i < n → ∀ j, j < n → A i j < 256
def eqM (n : Nat) (X Y : Nat → Nat → Nat) : Prop := ∀ i, i < n → ∀ j, j < n → X i j = Y i j
def mulF (n : Nat) (X Y : Nat → Nat → Nat) : Nat → Nat → Nat := fun i j => xs n (fun k => Gf.mul (X i k) (Y k j))
theorem eqM.symm {n : Nat} {X Y : Nat → Nat → Nat} (h : eqM n X Y) : eqM n Y X := fun i hi j hj => (h i hi j hj).symm
theorem eqM.trans {n : Nat} {X Y Z : Nat → Nat → Nat} (h : eqM n X Y) (k : eqM n Y Z) : eqM n X Z := fun i hi j hj => (h i hi j hj).trans (k i hi j hj)
theorem mulF_bytes {n : Nat} {X Y : Nat → Nat → Nat} (hX : bytesM n X) : bytesM n (mulF n X Y) := fun i hi j _ => mul_lt_of (hX i hi)
theorem mulF_congr {n : Nat} {X X' Y Y' : Nat → Nat → Nat} (h : eqM n X X') (k : eqM n Y Y') : eqM n (mulF n X Y) (mulF n X' Y') := fun i hi j hj => xs_congr (fun l hl => by rw [h i hi l hl, k l hl j hj])
theorem mulF_assoc {n : Nat} {X Y Z : Nat → Nat → Nat} (hX : bytesM n X) (hY : bytesM n Y) (hZ : bytesM n Z) : eqM n (mulF n (mulF n X Y) Z) (mulF n X (mulF n Y Z)) := by
  intro i hi j hj
  unfold mulF
  have e1 : xs n (fun k => Gf.mul (xs n (fun l => Gf.mul (X i l) (Y l k))) (Z k j)) = xs n (fun k => xs n (fun l => Gf.mul (X i l) (Gf.mul (Y l k) (Z k j)))) :=
    xs_congr (fun k hk => by
      rw [xs_mul _ (fun l hl => Gf.mul_lt _ (hX i hi l hl))]
      exact xs_congr (fun l hl => Gf.mul_assoc (hX i hi l hl) (hY l hl k hk) (hZ k hk j hj)))
  rw [e1, xs_swap]
  exact xs_congr (fun l hl => (mul_xs _ _ _).symm)
theorem one_mulF {n : Nat} {Y : Nat → Nat → Nat} (hY : bytesM n Y) : eqM n (mulF n idf Y) Y := by
  intro i hi j hj
  unfold mulF
  have e : xs n (fun k => Gf.mul (idf i k) (Y k j)) = xs n (fun k => if k = i then Y k j else 0) := xs_congr (fun k hk => by
    unfold idf
    by_cases h : k = i
    · subst h
      rw [if_pos rfl, if_pos rfl, Gf.mul_one_left (hY k hk j hj)]
    · rw [if_neg h, if_neg (fun e => h e.symm), Gf.mul_zero_left])
  rw [e, xs_one (fun k => Y k j) hi]
theorem mulF_one {n : Nat} {X : Nat → Nat → Nat} : eqM n (mulF n X idf) X := by
  intro i hi j hj
  unfold mulF
  have e : xs n (fun k => Gf.mul (X i k) (idf k j)) = xs n (fun k => if k = j then X i k else 0) := xs_congr (fun k hk => by
    unfold idf
    by_cases h : k = j
    · rw [if_pos h, if_pos h, Gf.mul_one_right]
    · rw [if_neg h, if_neg h, Gf.mul_zero_right])
  rw [e, xs_one (fun k => X i k) hj]
def findP (A : Nat → Nat → Nat) (c : Nat) : Nat → Nat → Option Nat
  | 0, _ => none
  | d + 1, p => if A p c = 0 then findP A c d (p + 1) else some p
def swapM (p c : Nat) (A : Nat → Nat → Nat) : Nat → Nat → Nat := fun i j => if i = c then A p j else if i = p then A c j else A i j
def scaleM (c v : Nat) (A : Nat → Nat → Nat) : Nat → Nat → Nat := fun i j => if i = c then Gf.mul v (A c j) else A i j
def elimM (c : Nat) (T : Nat → Nat) (A : Nat → Nat → Nat) : Nat → Nat → Nat := fun i j => if i = c then A i j else A i j ^^^ Gf.mul (T i) (A c j)
def gjF (p c v : Nat) (T : Nat → Nat) (X : Nat → Nat → Nat) : Nat → Nat → Nat := elimM c T (scaleM c v (swapM p c X))
def gjV (p c : Nat) (A : Nat → Nat → Nat) : Nat := Gf.pow (A p c) 254
def gjT (p c : Nat) (A : Nat → Nat → Nat) : Nat → Nat := fun i => scaleM c (gjV p c A) (swapM p c A) i c
def gjGo (n : Nat) : Nat → Nat → (Nat → Nat → Nat) → (Nat → Nat → Nat) → Option (Nat → Nat → Nat)
  | 0, _, _, B => some B
  | d + 1, c, A, B => match findP A c (n - c) c with
    | none => none
    | some p => gjGo n d (c + 1) (gjF p c (gjV p c A) (gjT p c A) A) (gjF p c (gjV p c A) (gjT p c A) B)
theorem findP_some {A : Nat → Nat → Nat} {c : Nat} : ∀ {d p q : Nat}, findP A c d p = some q → p ≤ q ∧ q < p + d ∧ A q c ≠ 0
  | 0, _, _, h => by simp [findP] at h
  | d + 1, p, q, h => by
    unfold findP at h
    by_cases e : A p c = 0
    · rw [if_pos e] at h
      obtain ⟨h1, h2, h3⟩ := findP_some h
      exact ⟨by omega, by omega, h3⟩
    · rw [if_neg e] at h
      injection h with h
      subst h
      exact ⟨Nat.le_refl _, by omega, e⟩
/-- What a step does to rows. -/
structure RowOp (n : Nat) (f : (Nat → Nat → Nat) → (Nat → Nat → Nat)) : Prop where
  bytes : ∀ X, bytesM n X → bytesM n (f X)
  comm : ∀ X Y, bytesM n X → bytesM n Y → eqM n (mulF n (f X) Y) (f (mulF n X Y))
  congr : ∀ X Y, eqM n X Y → eqM n (f X) (f Y)
theorem RowOp.comp {n : Nat} {f g : (Nat → Nat → Nat) → (Nat → Nat → Nat)} (hf : RowOp n f) (hg : RowOp n g) : RowOp n (fun X => g (f X)) :=
  ⟨fun X h => hg.bytes _ (hf.bytes X h), fun X Y hX hY => (hg.comm _ Y (hf.bytes X hX) hY).trans (hg.congr _ _ (hf.comm X Y hX hY)), fun X Y h => hg.congr _ _ (hf.congr X Y h)⟩
theorem swap_op {n p c : Nat} (hp : p < n) (hc : c < n) : RowOp n (swapM p c) := by
  refine ⟨fun X h i hi j hj => ?_, fun X Y hX hY i hi j hj => ?_, fun X Y h i hi j hj => ?_⟩
  · unfold swapM
    split
    · exact h p hp j hj
    · split
      · exact h c hc j hj
      · exact h i hi j hj
  · unfold swapM mulF
    by_cases h1 : i = c
    · simp only [if_pos h1]
    · simp only [if_neg h1]
      by_cases h2 : i = p
      · simp only [if_pos h2]
      · simp only [if_neg h2]
  · unfold swapM
    rw [h p hp j hj, h c hc j hj, h i hi j hj]
theorem scale_op {n c v : Nat} (hc : c < n) (hv : v < 256) : RowOp n (scaleM c v) := by
  refine ⟨fun X h i hi j hj => ?_, fun X Y hX hY i hi j hj => ?_, fun X Y h i hi j hj => ?_⟩
  · unfold scaleM
    split
    · exact Gf.mul_lt _ hv
    · exact h i hi j hj
  · unfold scaleM mulF
    by_cases h1 : i = c
    · simp only [if_pos h1]
      rw [mul_xs]
      exact xs_congr (fun k hk => Gf.mul_assoc hv (hX c hc k hk) (hY k hk j hj))
    · simp only [if_neg h1]
  · unfold scaleM
    rw [h c hc j hj, h i hi j hj]
theorem elim_op {n c : Nat} {T : Nat → Nat} (hc : c < n) (hT : ∀ i, i < n → T i < 256) : RowOp n (elimM c T) := by
  refine ⟨fun X h i hi j hj => ?_, fun X Y hX hY i hi j hj => ?_, fun X Y h i hi j hj => ?_⟩
  · unfold elimM
    split
    · exact h i hi j hj
    · exact Gf.xor_lt (n := 8) (h i hi j hj) (Gf.mul_lt _ (hT i hi))
  · unfold elimM mulF
    by_cases h1 : i = c
    · simp only [if_pos h1]
    · simp only [if_neg h1]
      rw [mul_xs, ← xs_xor]
      refine xs_congr (fun k hk => ?_)
      rw [Gf.mul_xor_left _ (hX i hi k hk) (Gf.mul_lt _ (hT i hi)), Gf.mul_assoc (hT i hi) (hX c hc k hk) (hY k hk j hj)]
  · unfold elimM
    rw [h c hc j hj, h i hi j hj]
theorem xor_again (a b : Nat) : a ^^^ b ^^^ b = a := by rw [Nat.xor_assoc, Nat.xor_self, Nat.xor_zero]
/-- A step may be undone. -/
theorem gjF_undo {n p c v u : Nat} {T : Nat → Nat} (hp : p < n) (hc : c < n) (hv : v < 256) (hu : u < 256) (h1 : Gf.mul u v = 1) (hT : ∀ i, i < n → T i < 256) :
    RowOp n (gjF p c v T) ∧ ∃ g, RowOp n g ∧ ∀ X, bytesM n X → eqM n (g (gjF p c v T X)) X := by
  refine ⟨(swap_op hp hc).comp ((scale_op hc hv).comp (elim_op hc hT)), fun X => swapM p c (scaleM c u (elimM c T X)), (elim_op hc hT).comp ((scale_op hc hu).comp (swap_op hp hc)), fun X hX => ?_⟩
  have e1 : eqM n (elimM c T (gjF p c v T X)) (scaleM c v (swapM p c X)) := fun i hi j hj => by
    unfold gjF elimM
    by_cases h : i = c
    · simp only [if_pos h]
    · simp only [if_neg h, if_true]
      exact xor_again _ _
  have b1 := (swap_op hp hc).bytes X hX
  have e2 : eqM n (scaleM c u (scaleM c v (swapM p c X))) (swapM p c X) := fun i hi j hj => by
    unfold scaleM
    by_cases h : i = c
    · subst h
      simp only [if_true]
      rw [← Gf.mul_assoc hu hv (b1 i hi j hj), h1, Gf.mul_one_left (b1 i hi j hj)]
    · simp only [if_neg h]
  have e3 : eqM n (swapM p c (swapM p c X)) X := fun i hi j hj => by
    unfold swapM
    by_cases h : i = c
    · subst h
      by_cases h2 : p = i
      · subst h2
        simp only [if_true]
      · simp only [if_true, if_neg h2]
    · simp only [if_neg h]
      by_cases h2 : i = p
      · subst h2
        simp only [if_true]
      · simp only [if_neg h2]
  exact ((swap_op hp hc).congr _ _ (((scale_op hc hu).congr _ _ e1).trans e2)).trans e3
theorem gj_unit {n p c : Nat} {A : Nat → Nat → Nat} (hA : bytesM n A) (hc : c < n) (hcp : c ≤ p) (hp : p < n) (h0 : A p c ≠ 0) (hU : ∀ j, j < c → ∀ i, i < n → A i j = idf i j) :
    ∀ j, j < c + 1 → ∀ i, i < n → gjF p c (gjV p c A) (gjT p c A) A i j = idf i j := by
  have hv : Gf.mul (gjV p c A) (A p c) = 1 := by
    unfold gjV
    rw [Gf.mul_comm (Gf.pow_lt (hA p hp c hc) 254) (hA p hp c hc)]
    exact Gf.mul_inv (hA p hp c hc) h0
  have s1 : ∀ j, j < c → ∀ i, i < n → swapM p c A i j = idf i j := by
    intro j hj i hi
    unfold swapM
    by_cases h : i = c
    · subst h
      rw [if_pos rfl, hU j hj p hp]
      unfold idf
      rw [if_neg (by omega), if_neg (by omega)]
    · rw [if_neg h]
      by_cases h2 : i = p
      · subst h2
        rw [if_pos rfl, hU j hj c hc]
        unfold idf
        rw [if_neg (by omega), if_neg (by omega)]
      · rw [if_neg h2]
        exact hU j hj i hi
  have s2 : ∀ j, j < c → ∀ i, i < n → scaleM c (gjV p c A) (swapM p c A) i j = idf i j := by
    intro j hj i hi
    unfold scaleM
    by_cases h : i = c
    · subst h
      rw [if_pos rfl, s1 j hj i hi]
      unfold idf
      rw [if_neg (by omega), Gf.mul_zero_right]
    · rw [if_neg h]
      exact s1 j hj i hi
  have s3 : scaleM c (gjV p c A) (swapM p c A) c c = 1 := by
    unfold scaleM swapM
    rw [if_pos rfl, if_pos rfl]
    exact hv
  intro j hj i hi
  show elimM c (gjT p c A) (scaleM c (gjV p c A) (swapM p c A)) i j = idf i j
  unfold elimM
  by_cases hjc : j = c
  · subst hjc
    by_cases h : i = j
    · subst h
      rw [if_pos rfl, s3]
      unfold idf
      rw [if_pos rfl]
    · rw [if_neg h, s3, Gf.mul_one_right]
      show gjT p j A i ^^^ gjT p j A i = _
      rw [Nat.xor_self]
      unfold idf
      rw [if_neg h]
  · have hj2 : j < c := by omega
    by_cases h : i = c
    · rw [if_pos h]
      exact s2 j hj2 i hi
    · rw [if_neg h, s2 j hj2 i hi, s2 j hj2 c hc]
      have z : idf c j = 0 := by
        unfold idf
        rw [if_neg (by omega)]
      rw [z, Gf.mul_zero_right, Nat.xor_zero]
theorem gjGo_ok {n : Nat} {M : Nat → Nat → Nat} (hM : bytesM n M) : ∀ (d c : Nat) (A B R B' : Nat → Nat → Nat), d + c = n → bytesM n A → bytesM n B → bytesM n R → eqM n (mulF n B M) A → (∀ j, j < c → ∀ i, i < n → A i j = idf i j) →
    eqM n (mulF n R A) M → eqM n (mulF n R B) idf → gjGo n d c A B = some B' → bytesM n B' ∧ eqM n (mulF n B' M) idf ∧ eqM n (mulF n M B') idf := by
  intro d
  induction d with
  | zero =>
    intro c A B R B' hd hA hB hR h1 h2 h3 h4 h
    simp only [gjGo, Option.some.injEq] at h
    subst h
    have e : eqM n A idf := fun i hi j hj => h2 j (by omega) i hi
    refine ⟨hB, h1.trans e, ?_⟩
    have r : eqM n R M := ((mulF_one (X := R)).symm.trans (mulF_congr (fun _ _ _ _ => rfl) e.symm)).trans h3
    exact (mulF_congr r.symm (fun _ _ _ _ => rfl)).trans h4
  | succ d ih =>
    intro c A B R B' hd hA hB hR h1 h2 h3 h4 h
    unfold gjGo at h
    cases hp : findP A c (n - c) c with
    | none => rw [hp] at h; simp at h
    | some p =>
      rw [hp] at h
      obtain ⟨p1, p2, p3⟩ := findP_some hp
      have hc : c < n := by omega
      have hpn : p < n := by omega
      have hv : gjV p c A < 256 := Gf.pow_lt (hA p hpn c hc) 254
      have hT : ∀ i, i < n → gjT p c A i < 256 := fun i hi => (scale_op hc hv).bytes _ ((swap_op hpn hc).bytes _ hA) i hi c hc
      obtain ⟨hf, g, hg, hu⟩ := gjF_undo (n := n) (p := p) (c := c) (v := gjV p c A) (u := A p c) (T := gjT p c A) hpn hc hv (hA p hpn c hc) (Gf.mul_inv (hA p hpn c hc) p3) hT
      have hid : bytesM n idf := fun i _ j _ => idf_lt i j
      have hG : bytesM n (g idf) := hg.bytes _ hid
      have key : ∀ X, bytesM n X → eqM n (mulF n (mulF n R (g idf)) (gjF p c (gjV p c A) (gjT p c A) X)) (mulF n R X) := by
        intro X hX
        have hfX := hf.bytes X hX
        refine (mulF_assoc hR hG hfX).trans (mulF_congr (fun _ _ _ _ => rfl) ?_)
        refine (hg.comm idf _ hid hfX).trans ((hg.congr _ _ (one_mulF hfX)).trans (hu X hX))
      refine ih (c + 1) _ _ (mulF n R (g idf)) B' (by omega) (hf.bytes A hA) (hf.bytes B hB) (mulF_bytes hR) ?_ (gj_unit hA hc p1 hpn p3 h2) ((key A hA).trans h3) ((key B hB).trans h4) h
      exact (hf.comm B M hB hM).trans (hf.congr _ _ h1)
def gj (n : Nat) (M : Nat → Nat → Nat) : Option (Nat → Nat → Nat) := gjGo n n 0 M idf
theorem gj_ok {n : Nat} {M B : Nat → Nat → Nat} (hM : bytesM n M) (h : gj n M = some B) : bytesM n B ∧ eqM n (mulF n B M) idf ∧ eqM n (mulF n M B) idf := by
  have hid : bytesM n idf := fun i _ j _ => idf_lt i j
  exact gjGo_ok hM n 0 M idf idf B (by omega) hM hid hid (one_mulF hM) (fun j hj => by omega) (one_mulF hM) (one_mulF hid) h

/-! ### rows of a square matrix -/
def rowN (n : Nat) (g : Nat → Nat) : List Int := (List.range n).map fun j => ((g j : Nat) : Int)
theorem rowN_length (n : Nat) (g : Nat → Nat) : (rowN n g).length = n := by simp [rowN]
theorem rowN_congr {n : Nat} {g h : Nat → Nat} (H : ∀ j, j < n → g j = h j) : rowN n g = rowN n h := by
  unfold rowN
  exact List.map_congr_left (fun j hj => by rw [H j (List.mem_range.mp hj)])
theorem rd_rowN {n : Nat} (g : Nat → Nat) {j : Nat} (hj : j < n) : rd (rowN n g) (j : Int) = ((g j : Nat) : Int) := by
  unfold rd rowN
  rw [Int.toNat_natCast, List.getD_eq_getElem?_getD, List.getElem?_map, List.getElem?_range hj]
  rfl
theorem rdL_mk {n : Nat} (A : Nat → Nat → Nat) {i : Nat} (hi : i < n) : rd_L3 (mk n n A) (i : Int) = rowN n (A i) := by
  unfold rd_L3
  rw [Int.toNat_natCast]
  exact mk_get n n A hi
theorem mk_getN {n : Nat} (A : Nat → Nat → Nat) {i : Nat} (hi : i < n) : (mk n n A).getD i [] = rowN n (A i) := mk_get n n A hi
theorem mk_at (r c : Nat) (f : Nat → Nat → Nat) {i : Nat} (hi : i < r) {h : i < (mk r c f).length} : (mk r c f)[i] = (List.range c).map fun j => ((f i j : Nat) : Int) := by
  have e := mk_get r c f hi
  rw [List.getD_eq_getElem?_getD, List.getElem?_eq_getElem h] at e
  exact e
theorem mk_set {n : Nat} (A : Nat → Nat → Nat) (g : Nat → Nat) {c : Nat} (_hc : c < n) : (mk n n A).set c (rowN n g) = mk n n (fun i j => if i = c then g j else A i j) := by
  refine List.ext_getElem (by rw [List.length_set, mk_length, mk_length]) (fun i h1 h2 => ?_)
  have hi : i < n := by rwa [mk_length] at h2
  rw [List.getElem_set, mk_at _ _ _ hi, mk_at _ _ _ hi]
  by_cases h : c = i
  · subst h
    rw [if_pos rfl]
    simp only [if_true]
    rfl
  · rw [if_neg h]
    refine List.map_congr_left (fun j _ => ?_)
    rw [if_neg (fun e => h e.symm)]
theorem swap_list2 {n : Nat} (A : Nat → Nat → Nat) {p c : Nat} (hp : p < n) (hc : c < n) : ((mk n n A).set c (rowN n (A p))).set p (rowN n (A c)) = mk n n (swapM p c A) := by
  rw [mk_set A (A p) hc, mk_set _ (A c) hp]
  refine mk_congr (fun i _ j _ => ?_)
  unfold swapM
  by_cases h1 : i = c
  · subst h1
    by_cases h2 : i = p
    · subst h2
      simp only [if_true]
    · simp only [if_neg h2, if_true]
  · simp only [if_neg h1]
theorem scale_list {n : Nat} (A : Nat → Nat → Nat) {c v : Nat} (hc : c < n) : (mk n n A).set c (rowN n (fun j => Gf.mul v (A c j))) = mk n n (scaleM c v A) := by
  rw [mk_set _ _ hc]
  rfl
def gjRes (n : Nat) : Option (Nat → Nat → Nat) → List (List Int) × Bool
  | none => ([], false)
  | some B => (mk n n B, true)
def invR (m : List (List Int)) : List (List Int) × Bool := if okM m = true ∧ m.length = (m.headD []).length then gjRes m.length (gj m.length (ent m)) else ([], false)
def partM (c : Nat) (T : Nat → Nat) (i0 : Nat) (X : Nat → Nat → Nat) : Nat → Nat → Nat := fun i j => if i < i0 ∧ i ≠ c then X i j ^^^ Gf.mul (T i) (X c j) else X i j
theorem part_zero (n c : Nat) (T : Nat → Nat) (X : Nat → Nat → Nat) : mk n n (partM c T 0 X) = mk n n X := mk_congr (fun i _ j _ => by unfold partM; rw [if_neg (by omega)])
theorem part_all (n c : Nat) (T : Nat → Nat) (X : Nat → Nat → Nat) : mk n n (partM c T n X) = mk n n (elimM c T X) := mk_congr (fun i hi j _ => by
  unfold partM elimM
  by_cases h : i = c
  · rw [if_neg (fun e => e.2 h), if_pos h]
  · rw [if_pos ⟨hi, h⟩, if_neg h])
theorem part_same (n c : Nat) (T : Nat → Nat) (i0 : Nat) (X : Nat → Nat → Nat) (h : i0 = c ∨ T i0 = 0) : mk n n (partM c T (i0 + 1) X) = mk n n (partM c T i0 X) := mk_congr (fun i _ j _ => by
  unfold partM
  by_cases e : i = i0
  · subst e
    rw [if_neg (show ¬ (i < i ∧ i ≠ c) from fun z => absurd z.1 (Nat.lt_irrefl _))]
    rcases h with h | h
    · rw [if_neg (fun z => z.2 h)]
    · by_cases hc : i ≠ c
      · rw [if_pos ⟨by omega, hc⟩, h, Gf.mul_zero_left, Nat.xor_zero]
      · rw [if_neg (fun z => hc z.2)]
  · by_cases hc : i < i0 ∧ i ≠ c
    · rw [if_pos hc, if_pos ⟨by omega, hc.2⟩]
    · rw [if_neg hc, if_neg (fun z => hc ⟨by omega, z.2⟩)])
theorem part_next {n c : Nat} (T : Nat → Nat) {i0 : Nat} (X : Nat → Nat → Nat) (hi : i0 < n) (h : i0 ≠ c) : (mk n n (partM c T i0 X)).set i0 (rowN n (fun j => X i0 j ^^^ Gf.mul (T i0) (X c j))) = mk n n (partM c T (i0 + 1) X) := by
  rw [mk_set _ _ hi]
  refine mk_congr (fun i _ j _ => ?_)
  unfold partM
  by_cases e : i = i0
  · subst e
    rw [if_pos rfl, if_pos ⟨by omega, h⟩]
  · rw [if_neg e]
    by_cases hc : i < i0 ∧ i ≠ c
    · rw [if_pos hc, if_pos ⟨by omega, hc.2⟩]
    · rw [if_neg hc, if_neg (fun z => hc ⟨by omega, z.2⟩)]
theorem part_row {c : Nat} (T : Nat → Nat) {i0 i : Nat} (X : Nat → Nat → Nat) (h : ¬ (i < i0 ∧ i ≠ c)) : partM c T i0 X i = X i := funext fun j => by
  unfold partM
  rw [if_neg h]
theorem ginv_nat {x : Nat} (h : x < 256) (h0 : x ≠ 0) : ginv (x : Int) = ((Gf.pow x 254 : Nat) : Int) := by
  unfold ginv
  rw [modb_nat h, if_neg h0]

/-! ### impl.scale, impl.addTimes -/
theorem rowN_at {n : Nat} (g : Nat → Nat) {i : Nat} {h : i < (rowN n g).length} : (rowN n g)[i] = ((g i : Nat) : Int) := by simp [rowN]
theorem rowN_set {n : Nat} (g : Nat → Nat) (x : Nat) {c : Nat} (_hc : c < n) : (rowN n g).set c ((x : Nat) : Int) = rowN n (fun j => if j = c then x else g j) := by
  refine List.ext_getElem (by rw [List.length_set, rowN_length, rowN_length]) (fun i h1 h2 => ?_)
  rw [List.getElem_set, rowN_at, rowN_at]
  by_cases h : c = i
  · subst h
    rw [if_pos rfl, if_pos rfl]
  · rw [if_neg h, if_neg (fun e => h e.symm)]
theorem impl_scale_ev {n v : Nat} {g : Nat → Nat} (hn : n ≤ 8) (hv : v < 256) (hg : ∀ j, j < n → g j < 256) : Ev (fun k => impl_scale.f k (rowN n g) (v : Int)) (rowN n (fun j => Gf.mul v (g j))) := by
  have key : ∀ d j : Nat, j ≤ n → n - j = d → Ev (fun k => impl_scale.l0 k (rowN n (fun i => if i < j then Gf.mul v (g i) else g i)) (v : Int) (n : Int) (j : Int)) (rowN n (fun j => Gf.mul v (g j))) := by
    intro d
    induction d with
    | zero =>
      intro j hj hd
      obtain rfl : j = n := by omega
      rw [rowN_congr (g := fun i => if i < j then Gf.mul v (g i) else g i) (h := fun j => Gf.mul v (g j)) (fun i hi => if_pos hi)]
      refine Ev.step (f := fun _ => some (rowN j (fun j => Gf.mul v (g j)))) (fun k => ?_) (Ev.now _)
      simp only [impl_scale.l0]
      rw [if_neg (by omega)]
    | succ d ih =>
      intro j hj hd
      have z := ih (j + 1) (by omega) (by omega)
      have hx := hg j (by omega)
      have e := impl_MulG_ev (a := ((g j : Nat) : Int)) (b := (v : Int)) (by omega) (by omega) (by omega) (by omega)
      rw [gmul_nn hx hv, Gf.mul_comm hx hv] at e
      have s : (rowN n (fun i => if i < j then Gf.mul v (g i) else g i)).set j ((Gf.mul v (g j) : Nat) : Int) = rowN n (fun i => if i < j + 1 then Gf.mul v (g i) else g i) := by
        rw [rowN_set _ _ (by omega)]
        refine rowN_congr (fun i _ => ?_)
        by_cases h1 : i = j
        · subst h1
          rw [if_pos rfl, if_pos (by omega)]
        · rw [if_neg h1]
          by_cases h2 : i < j
          · rw [if_pos h2, if_pos (by omega)]
          · rw [if_neg h2, if_neg (by omega)]
      refine Ev.step (f := fun k => (impl_MulG.f k ((g j : Nat) : Int) (v : Int)).bind fun t => impl_scale.l0 k ((rowN n (fun i => if i < j then Gf.mul v (g i) else g i)).set j t) (v : Int) (n : Int) ((j + 1 : Nat) : Int)) (fun k => ?_) (Ev.bind e (by rw [s]; exact z))
      simp only [impl_scale.l0]
      rw [if_pos (by omega), if_pos (by omega), if_pos (by rw [rowN_length]; omega), rd_rowN _ (by omega), if_neg (Nat.lt_irrefl j), wsucc (by omega), Int.toNat_natCast]
  have z := key n 0 (by omega) (by omega)
  have e0 : rowN n (fun i => if i < 0 then Gf.mul v (g i) else g i) = rowN n g := rowN_congr (fun i _ => if_neg (by omega))
  rw [e0] at z
  unfold impl_scale.f
  rw [rowN_length]
  exact z
theorem impl_addTimes_ev {n t : Nat} {a b : Nat → Nat} (hn : n ≤ 8) (ht : t < 256) (ha : ∀ j, j < n → a j < 256) (hb : ∀ j, j < n → b j < 256) : Ev (fun k => impl_addTimes.f k (rowN n a) (rowN n b) (t : Int)) (rowN n (fun j => a j ^^^ Gf.mul t (b j))) := by
  have key : ∀ d j : Nat, j ≤ n → n - j = d → Ev (fun k => impl_addTimes.l0 k (rowN n (fun i => if i < j then a i ^^^ Gf.mul t (b i) else a i)) (t : Int) (rowN n b) (n : Int) (j : Int)) (rowN n (fun j => a j ^^^ Gf.mul t (b j))) := by
    intro d
    induction d with
    | zero =>
      intro j hj hd
      obtain rfl : j = n := by omega
      rw [rowN_congr (g := fun i => if i < j then a i ^^^ Gf.mul t (b i) else a i) (h := fun j => a j ^^^ Gf.mul t (b j)) (fun i hi => if_pos hi)]
      refine Ev.step (f := fun _ => some (rowN j (fun j => a j ^^^ Gf.mul t (b j)))) (fun k => ?_) (Ev.now _)
      simp only [impl_addTimes.l0]
      rw [if_neg (by omega)]
    | succ d ih =>
      intro j hj hd
      have z := ih (j + 1) (by omega) (by omega)
      have hx := hb j (by omega)
      have hy := ha j (by omega)
      have hm := Gf.mul_lt (b j) ht
      have e := impl_MulG_ev (a := ((b j : Nat) : Int)) (b := (t : Int)) (by omega) (by omega) (by omega) (by omega)
      rw [gmul_nn hx ht, Gf.mul_comm hx ht] at e
      have s : (rowN n (fun i => if i < j then a i ^^^ Gf.mul t (b i) else a i)).set j ((a j ^^^ Gf.mul t (b j) : Nat) : Int) = rowN n (fun i => if i < j + 1 then a i ^^^ Gf.mul t (b i) else a i) := by
        rw [rowN_set _ _ (by omega)]
        refine rowN_congr (fun i _ => ?_)
        by_cases h1 : i = j
        · subst h1
          rw [if_pos rfl, if_pos (by omega)]
        · rw [if_neg h1]
          by_cases h2 : i < j
          · rw [if_pos h2, if_pos (by omega)]
          · rw [if_neg h2, if_neg (by omega)]
      refine Ev.step (f := fun k => (impl_MulG.f k ((b j : Nat) : Int) (t : Int)).bind fun u => impl_addTimes.l0 k ((rowN n (fun i => if i < j then a i ^^^ Gf.mul t (b i) else a i)).set j (Go.bits .xor .i64 ((a j : Nat) : Int) u)) (t : Int) (rowN n b) (n : Int) ((j + 1 : Nat) : Int)) (fun k => ?_) (Ev.bind e (by rw [bits_xor64 (by omega) (by omega), s]; exact z))
      simp only [impl_addTimes.l0]
      rw [if_pos (by omega), if_pos (by omega), if_pos (by rw [rowN_length]; omega), if_pos (by rw [rowN_length]; omega), rd_rowN _ (by omega), rd_rowN _ (by omega), if_neg (Nat.lt_irrefl j), wsucc (by omega), Int.toNat_natCast]
  have z := key n 0 (by omega) (by omega)
  have e0 : rowN n (fun i => if i < 0 then a i ^^^ Gf.mul t (b i) else a i) = rowN n a := rowN_congr (fun i _ => if_neg (by omega))
  rw [e0] at z
  unfold impl_addTimes.f
  rw [rowN_length]
  exact z

/-! ### two rows of a row of rows change places -/
def sgm (i k m : Nat) : Nat := if m = i then k else if m = k then i else m
theorem sgm_sgm (i k m : Nat) : sgm i k (sgm i k m) = m := by
  unfold sgm
  by_cases h1 : m = i
  · subst h1
    rw [if_pos rfl]
    by_cases h2 : k = m
    · rw [if_pos h2, h2]
    · rw [if_neg h2, if_pos rfl]
  · rw [if_neg h1]
    by_cases h2 : m = k
    · rw [if_pos h2, if_pos rfl, h2]
    · rw [if_neg h2, if_neg h1, if_neg h2]
theorem swap_at {β : Type} (ys : List β) {i k : Nat} (hi : i < ys.length) (hk : k < ys.length) (z : β) {m : Nat} (hm : m < ys.length) :
    ((ys.set i (ys.getD k z)).set k (ys.getD i z))[m]? = ys[sgm i k m]? := by
  have gi : ys.getD i z = ys[i] := by rw [List.getD_eq_getElem?_getD, List.getElem?_eq_getElem hi]; rfl
  have gk : ys.getD k z = ys[k] := by rw [List.getD_eq_getElem?_getD, List.getElem?_eq_getElem hk]; rfl
  rw [gi, gk]
  unfold sgm
  by_cases h2 : m = k
  · subst h2
    rw [List.getElem?_set_self (by rw [List.length_set]; exact hm)]
    by_cases h1 : m = i
    · subst h1
      rw [if_pos rfl, List.getElem?_eq_getElem hm]
    · rw [if_neg h1, if_pos rfl, List.getElem?_eq_getElem hi]
  · rw [List.getElem?_set_ne (Ne.symm h2)]
    by_cases h1 : m = i
    · subst h1
      rw [if_pos rfl, List.getElem?_set_self hm, List.getElem?_eq_getElem hk]
    · rw [if_neg h1, if_neg h2, List.getElem?_set_ne (Ne.symm h1)]
theorem take_one_at {β : Type} {l : List β} {m : Nat} {x : β} (h : l[m]? = some x) : (l.drop m).take 1 = [x] := by
  obtain ⟨hm, e⟩ := List.getElem?_eq_some_iff.mp h
  rw [List.drop_eq_getElem_cons hm, List.take_succ_cons, List.take_zero, e]
theorem S_swap {α : Type} {d : Kd α} {e base g n cap : Nat} {ok : Nat → Prop} {W : World} {xs : List α} (hsz : d.sz = 1) (h : Kd.S d e W base ok (.slice (some ⟨g, 0, none⟩) n cap) xs) {i k : Nat} (hi : i < n) (hk : k < n)
    {vi vk : Value} (ci : W.cell? ⟨g, i, none⟩ = some vi) (ck : W.cell? ⟨g, k, none⟩ = some vk) (z : α) :
    Kd.S d e ((W.setCell ⟨g, i, none⟩ vk).setCell ⟨g, k, none⟩ vi) base ok (.slice (some ⟨g, 0, none⟩) n cap) ((xs.set i (xs.getD k z)).set k (xs.getD i z)) := by
  obtain ⟨f, hR⟩ := h
  have hn := (Kd.R_reads' hR).1
  rw [List.length_zipIdx] at hn
  subst hn
  obtain ⟨hok0, inner, ho, hr⟩ := hR
  have hsz' : ∀ f, (Kd.tag f d).sz = 1 := fun _ => hsz
  have hlen : inner.length = xs.length := by
    have := hr.1
    rw [List.length_zipIdx, hsz', Nat.mul_one] at this
    exact this
  have hgo : (Value.slice (some ⟨g, 0, none⟩) xs.length cap).ownBlock = some g := by simp [Value.ownBlock]
  have cell : ∀ (j : Nat) (u : Value), inner[j]? = some u → W.cell? ⟨g, j, none⟩ = some u := fun j u hu => by
    have := ho.cells (g := g) hgo j u hu
    rwa [add_plain] at this
  have ei : inner[i]'(by omega) = vi := by
    have := cell i _ (List.getElem?_eq_getElem (by omega))
    rw [ci] at this
    exact (Option.some.inj this).symm
  have ek : inner[k]'(by omega) = vk := by
    have := cell k _ (List.getElem?_eq_getElem (by omega))
    rw [ck] at this
    exact (Option.some.inj this).symm
  have di : inner.getD i vi = vi := by rw [List.getD_eq_getElem?_getD, List.getElem?_eq_getElem (by omega), ei]; rfl
  have dk : inner.getD k vi = vk := by rw [List.getD_eq_getElem?_getD, List.getElem?_eq_getElem (by omega), ek]; rfl
  rw [List.length_zipIdx] at ho
  obtain ⟨h1, g1⟩ := ho.stored i vk
  obtain ⟨h2, g2⟩ := h1.stored k vi
  refine ⟨fun q => sgm i k (f q), hok0, (inner.set i vk).set k vi, by rw [List.length_zipIdx, List.length_set, List.length_set]; exact h2, by rw [List.length_set, List.length_set, List.length_zipIdx, List.length_set, List.length_set, hsz', Nat.mul_one]; exact hlen, fun m p hm => ?_⟩
  rw [List.getElem?_zipIdx, Nat.zero_add] at hm
  obtain ⟨q, hq, rfl⟩ := Option.map_eq_some_iff.1 hm
  have hml : m < xs.length := by
    have := (List.getElem?_eq_some_iff.1 hq).1
    rwa [List.length_set, List.length_set] at this
  have hxs := swap_at xs hi hk z hml
  rw [hq] at hxs
  have hin := swap_at inner (i := i) (k := k) (by omega) (by omega) vi (m := m) (by omega)
  rw [di, dk] at hin
  have hs : sgm i k m < xs.length := (List.getElem?_eq_some_iff.1 hxs.symm).1
  have old := hr.2 (sgm i k m) _ (Kd.zip_at hxs.symm)
  have e1 : inner[sgm i k m]? = some (inner[sgm i k m]'(by omega)) := List.getElem?_eq_getElem (by omega)
  rw [hsz', Nat.mul_one, take_one_at e1] at old
  rw [hsz', Nat.mul_one, take_one_at (hin.trans e1)]
  have old2 : d.M W base (fun q_ => (ok q_ ∧ some q_ ≠ (Value.slice (some ⟨g, 0, none⟩) xs.length cap).ownBlock) ∧ f q_ = sgm i k m) q [inner[sgm i k m]'(by omega)] := old
  show d.M _ base (fun q_ => (ok q_ ∧ some q_ ≠ (Value.slice (some ⟨g, 0, none⟩) xs.length cap).ownBlock) ∧ sgm i k (f q_) = m) q [inner[sgm i k m]'(by omega)]
  refine d.M_mono (fun q_ hq_ => ⟨hq_.1, by rw [hq_.2, sgm_sgm]⟩) (d.M_move (fun q_ hq_ => ?_) old2)
  have hne : q_ ≠ g := fun he => hq_.1.2 (by rw [he, hgo])
  rw [Below.heap_setCell _ _ _ _ hne, Below.heap_setCell _ _ _ _ hne]
theorem second_cell {α : Type} {d : Kd α} {e base g n cap : Nat} {ok : Nat → Prop} {W : World} {xs : List α} (hsz : d.sz = 1) (h : Kd.S d e W base ok (.slice (some ⟨g, 0, none⟩) n cap) xs) {i k : Nat} (hi : i < n) (hk : k < n)
    {vk : Value} (ck : W.cell? ⟨g, k, none⟩ = some vk) : (W.setCell ⟨g, i, none⟩ vk).cell? ⟨g, k, none⟩ = some vk := by
  have hn := (Kd.R_reads' (Kd.S_R h)).1
  subst hn
  obtain ⟨_, inner, ho, hr⟩ := Kd.S_R h
  have hlen : inner.length = xs.length := by
    have := hr.1
    rw [hsz, Nat.mul_one] at this
    exact this
  have hgo : (Value.slice (some ⟨g, 0, none⟩) xs.length cap).ownBlock = some g := by simp [Value.ownBlock]
  have ek : inner[k]'(by omega) = vk := by
    have := ho.cells (g := g) hgo k _ (List.getElem?_eq_getElem (by omega))
    rw [add_plain] at this
    rw [ck] at this
    exact (Option.some.inj this).symm
  have h1 := (ho.stored i vk).1
  have z := h1.cells (g := g) hgo k vk (by
    by_cases e : i = k
    · subst e
      rw [List.getElem?_set_self (by omega)]
    · rw [List.getElem?_set_ne e, List.getElem?_eq_getElem (by omega), ek])
  rw [add_plain] at z
  exact z
theorem H_tell {α : Type} {d : Kd α} {e' e g n cap base : Nat} {ok oki : Nat → Prop} {W : World} {xs : List (List α)} {i : Int} {cs : List Value} (h : Kd.H (Kd.slice e' d) e W base ok (.slice (some ⟨g, 0, none⟩) n cap) xs i oki cs) (j : Nat) (hj : j < xs.length) (hne : j ≠ i.toNat) :
    ∃ B dc, (xs.getD j []).length ≤ dc ∧ W.cell? ⟨g, j, none⟩ = some (.slice B (xs.getD j []).length dc) ∧ ∀ W', Kept W W' oki → Kd.C d W' B (xs.getD j []).length (xs.getD j []) := by
  obtain ⟨_, f, h0, inner, ho, hr⟩ := h
  have e1 : xs.getD j [] = xs[j] := by rw [List.getD_eq_getElem?_getD, List.getElem?_eq_getElem hj]; rfl
  rw [e1]
  obtain ⟨v, hcs, hR⟩ := (hr.2 j _ (Kd.zip_at (List.getElem?_eq_getElem hj))).2 hne
  obtain ⟨B, dc, rfl⟩ := Kd.R_slice hR
  have hgo : (Value.slice (some ⟨g, 0, none⟩) n cap).ownBlock = some g := by simp [Value.ownBlock]
  have hin : inner[j]? = some (.slice B (xs[j]).length dc) := by
    have z := congrArg (fun l : List Value => l[0]?) hcs
    have hs : (Kd.gap f (Kd.slice e' d) i.toNat cs).sz = 1 := rfl
    rw [hs, Nat.mul_one] at z
    simpa only [List.getElem?_take, List.getElem?_drop, Nat.add_zero, Nat.lt_add_one, if_true, List.getElem?_cons_zero, Nat.zero_lt_one] using z
  have z := ho.cells (g := g) hgo j _ hin
  rw [add_plain] at z
  exact ⟨B, dc, (Kd.R_reads' hR).2.1, z, Kd.C_kept_own hR (fun k hk => hk.1.1.2)⟩

def sizeOk (l : List (List Int)) : Bool := decide (l.length ≤ 1099511627776) && l.all (fun r => decide (r.length ≤ 1099511627776))
theorem sizeOk_iff {l : List (List Int)} : sizeOk l = true ↔ l.length ≤ 1099511627776 ∧ ∀ r ∈ l, r.length ≤ 1099511627776 := by
  unfold sizeOk
  rw [Bool.and_eq_true, decide_eq_true_iff, List.all_eq_true]
  exact ⟨fun h => ⟨h.1, fun r hr => of_decide_eq_true (h.2 r hr)⟩, fun h => ⟨h.1, fun r hr => decide_eq_true (h.2 r hr)⟩⟩
def impl_InvM.f (l0 : List (List Int)) : Option (List (List Int) × Bool) := if sizeOk l0 = true then some (invR l0) else none
set_option maxHeartbeats 8000000 in
set_option maxRecDepth 100000 in
theorem impl_InvM.calls (A0 : Option Addr) (c0 : Nat) (l0 : List (List Int)) (r1 : List (List Int)) (r2 : Bool) (w : World) (hr0 : Kd.C (Kd.slice 3 (Kd.int .i64)) w A0 l0.length l0) (hc0 : l0.length ≤ c0) (h : impl_InvM.f l0 = some (r1, r2)) :
    Calls Try.prog 37 #[.slice A0 l0.length c0] w fun e w' => ∃ v0_ : Value, e = .returned (.tuple #[v0_, .bool r2]) ∧ Kd.S (Kd.slice 3 (Kd.int .i64)) 32 w' w.heap.size (fun _ => True) v0_ r1 ∧ Below w.heap.size w w' := by
  unfold impl_InvM.f at h
  by_cases hz0 : sizeOk l0 = true
  case neg =>
    rw [if_neg hz0] at h
    exact absurd h (by simp)
  rw [if_pos hz0] at h
  have hz := sizeOk_iff.mp hz0
  clear hz0
  have hI : invR l0 = (r1, r2) := Option.some.inj h
  clear h
  obtain ⟨k1, e1⟩ := impl_MatrixOk_ev l0 (by have := hz.1; omega) (fun r hr => by have := hz.2 r hr; omega)
  have e1 := e1 k1 (Nat.le_refl _)
  have HR0 := hr0
  have HC0 := hc0
  have HB := Below.refl w.heap.size w
  cases om : okM l0 with
  | false =>
    rw [om] at e1
    have hI2 : invR l0 = ([], false) := by unfold invR; rw [if_neg (fun h_ => by rw [om] at h_; exact absurd h_.1 (by simp))]
    rw [hI2] at hI
    obtain ⟨rfl, rfl⟩ := Prod.mk.inj hI
    go_enter Try.func37, Try.ntmps37
    go_wp2_with (first | ((with_reducible refine gate_callee (f := 46) rfl ?_); refine goesL_ (some 14) rfl rfl Try.func46 (by kernel_rfl) rfl #[.slice A0 l0.length c0] rfl (by (try simp only [List.map_toArray, List.map_cons, List.map_nil]); first | done | rfl) ?_; (with_reducible refine (impl_MatrixOk.calls k1 _ _ l0 false _ ?side1 ?side2 e1).mono ?_); (case side1 => repeat (first | exact HR0 | (with_reducible refine Kd.C_alloc ?_ _) | (with_reducible refine Kd.C_drewN ?_ _) | (with_reducible refine Kd.C_drew ?_))); (case side2 => exact HC0); rintro e w' ⟨rfl, ⟨nd, rfl⟩⟩; refine ⟨_, rfl, ?_⟩))
    go_ret2
    exact ⟨_, rfl, Kd.S_nil _ _ _ _ _, (by repeat (first | exact HB | apply below_alloc | apply pw_below_drewN | apply below_drew1))⟩
  | true =>
    rw [om] at e1
    obtain ⟨a1, a2, a3, a4, _⟩ := of_okM om
    by_cases hn : l0.length = (l0.headD []).length
    case neg =>
      have hI2 : invR l0 = ([], false) := by unfold invR; rw [if_neg (fun h_ => hn h_.2)]
      rw [hI2] at hI
      obtain ⟨rfl, rfl⟩ := Prod.mk.inj hI
      have p0 : (0 : Int) ≤ 0 := Int.le_refl _
      have q0 : (0 : Int) < (l0.length : Int) := by omega
      obtain ⟨ad0, B0, d0, e0, hx0, hl0, hi0⟩ := at_L3 HR0 0 p0 q0
      cases e0
      rw [rdL_zero, show ((0 : Int)).toNat = 0 from rfl, Addr.add_zero'] at hx0
      have qi0 : (0 < l0.length) = True := eq_true (by omega)
      obtain ⟨m_, hm_⟩ : ∃ m, m = (l0.headD []).length := ⟨_, rfl⟩
      rw [← hm_] at hx0
      have c0b : ((l0.length : Int) != (m_ : Int)) = true := bne_iff_ne.mpr (by omega)
      have hn0 := Aside0.mk hn
      clear hm_ hn
      replace p0 := eq_true p0
      replace q0 := eq_true q0
      go_enter Try.func37, Try.ntmps37
      go_wp2_with (first | ((with_reducible refine gate_callee (f := 46) rfl ?_); refine goesL_ (some 14) rfl rfl Try.func46 (by kernel_rfl) rfl #[.slice (some ad0) l0.length c0] rfl (by (try simp only [List.map_toArray, List.map_cons, List.map_nil]); first | done | rfl) ?_; (with_reducible refine (impl_MatrixOk.calls k1 _ _ l0 true _ ?side1 ?side2 e1).mono ?_); (case side1 => repeat (first | exact HR0 | (with_reducible refine Kd.C_alloc ?_ _) | (with_reducible refine Kd.C_drewN ?_ _) | (with_reducible refine Kd.C_drew ?_))); (case side2 => exact HC0); rintro e w' ⟨rfl, ⟨nd, rfl⟩⟩; refine ⟨_, rfl, ?_⟩))
      go_ret2
      exact ⟨_, rfl, Kd.S_nil _ _ _ _ _, (by repeat (first | exact HB | apply below_alloc | apply pw_below_drewN | apply below_drew1))⟩
    obtain ⟨N, hN⟩ : ∃ N, N = l0.length := ⟨_, rfl⟩
    have p0 : (0 : Int) ≤ 0 := Int.le_refl _
    have q0 : (0 : Int) < (l0.length : Int) := by omega
    obtain ⟨ad0, B0, d0, e0, hx0, hl0, hi0⟩ := at_L3 HR0 0 p0 q0
    cases e0
    rw [rdL_zero, show ((0 : Int)).toNat = 0 from rfl, Addr.add_zero', ← hn] at hx0
    have qi0 : (0 < l0.length) = True := eq_true (by omega)
    replace p0 := eq_true p0
    replace q0 := eq_true q0
    obtain ⟨k2, e2⟩ := impl_OneM_ev (l0.length : Int)
    have e2 := e2 k2 (Nat.le_refl _)
    unfold oneR at e2
    rw [if_pos (by omega), Int.toNat_natCast] at e2
    have Em := Aside0.mk (show l0 = mk l0.length l0.length (ent l0) by have em := eq_mk om; rw [← hn] at em; exact em)
    have Hn := Aside0.mk hn
    have HI := Aside0.mk hI
    have hb : bytesM l0.length (ent l0) := fun i hi j hj => (rd_ent om hi (by omega)).2
    have Om := Aside0.mk om
    clear hn hI hN om N
    go_enter Try.func37, Try.ntmps37
    go_wp2_with (first | ((with_reducible refine gate_callee (f := 46) rfl ?_); refine goesL_ (some 14) rfl rfl Try.func46 (by kernel_rfl) rfl #[.slice (some ad0) l0.length c0] rfl (by (try simp only [List.map_toArray, List.map_cons, List.map_nil]); first | done | rfl) ?_; (with_reducible refine (impl_MatrixOk.calls k1 _ _ l0 true _ ?side1 ?side2 e1).mono ?_); (case side1 => repeat (first | exact HR0 | (with_reducible refine Kd.C_alloc ?_ _) | (with_reducible refine Kd.C_drewN ?_ _) | (with_reducible refine Kd.C_drew ?_))); (case side2 => exact HC0); rintro e w' ⟨rfl, ⟨nd, rfl⟩⟩; refine ⟨_, rfl, ?_⟩) | ((with_reducible refine gate_callee (f := 49) rfl ?_); refine goesL_ (some 27) rfl rfl Try.func49 (by kernel_rfl) rfl #[.int .i64 (l0.length : Int)] rfl (by (try simp only [List.map_toArray, List.map_cons, List.map_nil]); first | done | rfl) ?_; (with_reducible refine (impl_OneM.calls k2 (l0.length : Int) (mk l0.length l0.length idf) _ e2).mono ?_); rintro e N1 ⟨v1, rfl, ho1, hb1⟩; obtain ⟨A1, c1, rfl⟩ := Kd.S_slice ho1; refine ⟨_, rfl, ?_⟩; have HB1 := below_step (by repeat (first | exact HB | apply below_alloc | apply pw_below_drewN | apply below_drew1)) hb1; have hs1 := Kd.S_lower (Kd.S_mono (ok' := fun k_ => k_ < N1.heap.size) (Kd.S_bound ho1) (fun k_ hk_ => hk_.2.2.1)) (show w.heap.size ≤ w.heap.size from Nat.le_refl _); clear ho1 hb1))
    go_loopg [30, 5] l0.length (fun kq v30 v5 w' => ∃ i : Nat, v30 = .int .i64 (i : Int) ∧ Aside0 (i ≤ l0.length) ∧ Aside0 (kq = l0.length - i) ∧ Aside0 (Kd.S (Kd.slice 3 (Kd.int .i64)) 32 w' N1.heap.size (fun _ => True) v5 ((List.range i).map fun j => rowN l0.length (ent l0 j))) ∧ Aside0 (Kd.S (Kd.slice 3 (Kd.int .i64)) 32 w' w.heap.size (fun k_ => k_ < N1.heap.size) (.slice A1 (mk l0.length l0.length idf).length c1) (mk l0.length l0.length idf)) ∧ Aside0 (Below N1.heap.size N1 w'))
    case atStart => exact ⟨0, rfl, ⟨Nat.zero_le _⟩, ⟨rfl⟩, ⟨Kd.S_nil _ _ _ _ _⟩, ⟨by (with_reducible repeat (first | apply Kd.S_alloc | apply Kd.S_drewN | apply Kd.S_drew)); exact hs1⟩, ⟨by repeat (first | exact Below.refl _ _ | apply below_alloc | apply pw_below_drewN | apply below_drew1)⟩⟩
    case round =>
      obtain ⟨i, rfl, HI1, HKQ, HS5, HS4, HBN⟩ := hrel
      have er : ∀ j : Nat, j < l0.length → rd_L3 l0 (j : Int) = rowN l0.length (ent l0 j) := fun j hj => by
        have q := rdL_mk (n := l0.length) (ent l0) (i := j) hj
        rw [← Em.out] at q
        exact q
      have Er := Aside0.mk er
      clear er
      by_cases c : i < l0.length
      · have c0b : decide ((i : Int) < (l0.length : Int)) = true := decide_eq_true (by omega)
        have p5 : (0 : Int) ≤ (i : Int) := by omega
        have q5 : (i : Int) < (l0.length : Int) := by omega
        obtain ⟨ad5, B5, d5, e5, hx5, hl5, hi5⟩ := at_L3 (Kd.C_below HR0 (below_step HB1 HBN.out)) (i : Int) p5 q5
        obtain rfl : ad0 = ad5 := by injection e5
        rw [Int.toNat_natCast] at hx5
        replace p5 := eq_true p5
        replace q5 := eq_true q5
        have hrl : (rd_L3 l0 (i : Int)).length = l0.length := by rw [Er.out i c, rowN_length]
        have ecl : slices_Clone_int_int.f (rd_L3 l0 (i : Int)) = some (rd_L3 l0 (i : Int)) := by
          unfold slices_Clone_int_int.f
          rw [if_pos (by omega)]
        have Hrl := Aside0.mk hrl
        clear hrl
        go_wp2_with (first | ((with_reducible refine gate_callee (f := 55) rfl ?_); refine goesL_ (some 36) rfl rfl Try.func55 (by kernel_rfl) rfl #[.slice B5 (rd_L3 l0 (i : Int)).length d5] rfl (by (try simp only [List.map_toArray, List.map_cons, List.map_nil]); first | done | rfl) ?_; (with_reducible refine (slices_Clone_int_int.calls _ _ (rd_L3 l0 (i : Int)) (rd_L3 l0 (i : Int)) _ ?side1 ?side2 ecl).mono ?_); (case side1 => repeat (first | exact hi5 | (with_reducible refine Kd.C_alloc ?_ _) | (with_reducible refine Kd.C_drewN ?_ _) | (with_reducible refine Kd.C_drew ?_))); (case side2 => exact hl5); rintro e w5 ⟨v9, rfl, ho9, hb9⟩; obtain ⟨A9, c9, rfl⟩ := Kd.R_slice ho9; refine ⟨_, rfl, ?_⟩; have hO := Kd.S_mono (ok' := fun k_ => True ∧ ¬ (some k_ = (.slice A9 (rd_L3 l0 (i : Int)).length c9 : Value).ownBlock)) (Kd.S_old (by (with_reducible repeat (first | apply Kd.S_alloc | apply Kd.S_drewN | apply Kd.S_drew)); exact HS5.out) hb9) (fun k_ hk_ => ⟨trivial, fun e_ => absurd hk_.2 (Nat.not_lt.mpr (Kd.R_base ho9 k_ e_.symm))⟩); have hs45 := Kd.S_below (by (with_reducible repeat (first | apply Kd.S_alloc | apply Kd.S_drewN | apply Kd.S_drew)); exact HS4.out) hb9; have hrow := Kd.R_lower (Kd.R_tight rfl ho9) (below_size (by repeat (first | exact HBN.out | apply below_alloc | apply pw_below_drewN | apply below_drew1))); have HBN5 := below_step (by repeat (first | exact HBN.out | apply below_alloc | apply pw_below_drewN | apply below_drew1)) hb9) | ((with_reducible refine gate_builtin (b := .append) (xs := #[.tmp 34, .tmp 37]) rfl ?_); (try (refine gate_guard (by rfl) ?_; dsimp only)); at_builtin; refine Kd.S_append (Kd.slice 3 (Kd.int .i64)) (w0 := N1) N1.heap.size rfl (.tmp 34) (.tmp 37) 49 32 (.slice none 0 0) 24 rfl Try.underlying49 info32 rfl (by decide) (by omega) u5 ((List.range i).map fun j => rowN l0.length (ent l0 j)) (rd_L3 l0 (i : Int)) [.slice A9 (rd_L3 l0 (i : Int)).length c9] (fun _ => True) (fun k_ => some k_ = (.slice A9 (rd_L3 l0 (i : Int)).length c9 : Value).ownBlock) rfl rfl ?aP (fun k_ hk_ => ⟨trivial, fun e_ => ((Kd.S_R hO).1 k_ e_.symm).2 hk_⟩) ?aF ?aO ?aB ?aS ?aL ?_; (case aP => exact Kd.M_row (by (with_reducible repeat (first | apply Kd.R_alloc | apply Kd.R_drewN | apply Kd.R_drew)); exact hrow)); (case aB => exact (by repeat (first | exact HBN5 | apply below_alloc | apply pw_below_drewN | apply below_drew1))); (case aF => exact (fun _ _ => trivial)); (case aO => exact (by (with_reducible repeat (first | apply Kd.S_alloc | apply Kd.S_drewN | apply Kd.S_drew)); exact hO)); (case aS => exact (below_size (by repeat (first | exact HBN5 | apply below_alloc | apply pw_below_drewN | apply below_drew1)))); (case aL => rw [List.length_map, List.length_range]; omega); intro v6 w6 ho hb hg hat; rw [Er.out i c, ← range_map_succ] at ho; have hs4 := Kd.S_grown (by (with_reducible repeat (first | apply Kd.S_alloc | apply Kd.S_drewN | apply Kd.S_drew)); exact hs45) hg (fun k_ hk_ e_ => absurd hk_ (Nat.not_lt.mpr (Kd.S_base hO k_ e_.symm)))))
        go_roundg (l0.length - (i + 1))
        case measure => have := HKQ.out; omega
        case rel => exact ⟨i + 1, by first | rfl | rw [wsucc (by omega)], ⟨by omega⟩, ⟨rfl⟩, ⟨by (with_reducible repeat (first | apply Kd.S_alloc | apply Kd.S_drewN | apply Kd.S_drew)); exact ho⟩, ⟨by (with_reducible repeat (first | apply Kd.S_alloc | apply Kd.S_drewN | apply Kd.S_drew)); exact hs4⟩, ⟨by repeat (first | exact hb | apply below_alloc | apply pw_below_drewN | apply below_drew1)⟩⟩
      · have c0b : decide ((i : Int) < (l0.length : Int)) = false := decide_eq_false (by omega)
        have ei : i = l0.length := by have := HI1.out; omega
        have HS5 := Aside0.mk (show Kd.S (Kd.slice 3 (Kd.int .i64)) 32 wr N1.heap.size (fun _ => True) u5 (mk l0.length l0.length (ent l0)) by have h_ := HS5.out; rw [ei] at h_; exact h_)
        obtain ⟨A5, c5, e5_⟩ := Kd.S_slice HS5.out
        subst e5_
        have HBW := Aside0.mk (below_step HB1 HBN.out)
        have last := Aside0.mk (show gjRes l0.length (gjGo l0.length l0.length 0 (ent l0) idf) = (r1, r2) by
          have h_ := HI.out
          unfold invR at h_
          rw [if_pos ⟨Om.out, Hn.out⟩] at h_
          exact h_)
        have hbA := Aside0.mk hb
        clear hb HBN
        obtain ⟨n, en⟩ : ∃ n, n = l0.length := ⟨_, rfl⟩
        have ln := mk_length n n (ent l0)
        have ln2 := mk_length n n idf
        rw [← en] at HS5 HS4 last hbA a1 a2 c0b Em Er ⊢
        rw [ln] at HS5 ⊢
        rw [ln2] at HS4 ⊢
        have En := Aside0.mk en
        have c0n : (i < n) = False := eq_false (by omega)
        have c0i : ((i : Int) < (n : Int)) = False := eq_false (by omega)
        clear en ln ln2 ei
        clear hx0 hl0 hi0 qi0 p0 q0 e2 e1
        have HS5 := Aside0.mk (Kd.S_lower (Kd.S_mono (ok' := fun k_ => N1.heap.size ≤ k_) (Kd.S_bound HS5.out) (fun k_ hk_ => hk_.2.1)) HB1.size)
        obtain ⟨g5, q5_, eo5, gb5, gl5, cl5, HG5⟩ := Kd.S_form HS5.out (by rw [mk_length]; omega)
        (first | cases eo5 | (injection eo5 with ea_ en_ ec_; (first | subst ea_ | (injection ea_ with ea_; subst ea_)); subst ec_; clear en_))
        obtain ⟨g4, q4_, eo4, gb4, gl4, cl4, HG4⟩ := Kd.S_form HS4.out (by rw [mk_length]; omega)
        (first | cases eo4 | (injection eo4 with ea_ en_ ec_; (first | subst ea_ | (injection ea_ with ea_; subst ea_)); subst ec_; clear en_))
        clear cl5 HG5 cl4 HG4
        go_wp2
        go_loopg [42] n (fun kq v42 w' => ∃ (c : Nat) (A B : Nat → Nat → Nat), v42 = .int .i64 (c : Int) ∧ Aside0 (c ≤ n) ∧ Aside0 (kq = n - c) ∧ Aside0 (bytesM n A) ∧ Aside0 (bytesM n B) ∧ Aside0 (gjRes n (gjGo n (n - c) c A B) = (r1, r2)) ∧ Aside0 (Kd.S (Kd.slice 3 (Kd.int .i64)) 32 w' w.heap.size (fun k_ => N1.heap.size ≤ k_) (.slice (some ⟨g5, 0, none⟩) n c5) (mk n n A)) ∧ Aside0 (Kd.S (Kd.slice 3 (Kd.int .i64)) 32 w' w.heap.size (fun k_ => k_ < N1.heap.size) (.slice (some ⟨g4, 0, none⟩) n c1) (mk n n B)) ∧ Aside0 (Below w.heap.size w w'))
        case atStart => exact ⟨0, ent l0, idf, rfl, ⟨Nat.zero_le _⟩, ⟨rfl⟩, hbA, ⟨fun i _ j _ => idf_lt i j⟩, ⟨by rw [Nat.sub_zero]; exact last.out⟩, ⟨by (with_reducible repeat (first | apply Kd.S_alloc | apply Kd.S_drewN | apply Kd.S_drew)); exact HS5.out⟩, ⟨by (with_reducible repeat (first | apply Kd.S_alloc | apply Kd.S_drewN | apply Kd.S_drew)); exact HS4.out⟩, ⟨by repeat (first | exact HBW.out | apply below_alloc | apply pw_below_drewN | apply below_drew1)⟩⟩
        case round =>
          clear HS5 HS4 HBW last hbA
          obtain ⟨c, A, B, rfl, HC, HKC, hA, hB, HR, HS5, HS4, HBW⟩ := hrel
          by_cases cc : c < n
          · have ccb : decide ((c : Int) < (n : Int)) = true := decide_eq_true (by omega)
            have ccbn : (c < n) = True := eq_true (by omega)
            have ccbi : ((c : Int) < (n : Int)) = True := eq_true (by omega)
            go_wp2
            go_loopg [9] (n - c) (fun kq v9 w' => ∃ p : Nat, v9 = .int .i64 (p : Int) ∧ Aside0 (c ≤ p) ∧ Aside0 (p ≤ n) ∧ Aside0 (kq = n - p) ∧ Aside0 (findP A c (n - p) p = findP A c (n - c) c) ∧ Aside0 (Kd.S (Kd.slice 3 (Kd.int .i64)) 32 w' w.heap.size (fun k_ => N1.heap.size ≤ k_) (.slice (some ⟨g5, 0, none⟩) n c5) (mk n n A)) ∧ Aside0 (Kd.S (Kd.slice 3 (Kd.int .i64)) 32 w' w.heap.size (fun k_ => k_ < N1.heap.size) (.slice (some ⟨g4, 0, none⟩) n c1) (mk n n B)) ∧ Aside0 (Below w.heap.size w w'))
            case atStart => exact ⟨c, rfl, ⟨Nat.le_refl _⟩, ⟨by omega⟩, ⟨rfl⟩, ⟨rfl⟩, ⟨by (with_reducible repeat (first | apply Kd.S_alloc | apply Kd.S_drewN | apply Kd.S_drew)); exact HS5.out⟩, ⟨by (with_reducible repeat (first | apply Kd.S_alloc | apply Kd.S_drewN | apply Kd.S_drew)); exact HS4.out⟩, ⟨by repeat (first | exact HBW.out | apply below_alloc | apply pw_below_drewN | apply below_drew1)⟩⟩
            case round =>
              clear HS5 HS4 HBW
              obtain ⟨p, rfl, HP1, HP2, HKP, HF, HS5, HS4, HBW⟩ := hrel
              by_cases cp : p < n
              · have cpb : decide ((p : Int) < (n : Int)) = true := decide_eq_true (by omega)
                have cpbn : (p < n) = True := eq_true (by omega)
                have cpbi : ((p : Int) < (n : Int)) = True := eq_true (by omega)
                have rl := (Kd.S_reads' HS5.out).2.2
                obtain ⟨ad6, B6, d6, e6, hx6, hl6, hi6⟩ := at_L3 rl (p : Int) (by omega) (by rw [mk_length]; omega)
                obtain rfl : (⟨g5, 0, none⟩ : Addr) = ad6 := by injection e6
                rw [rdL_mk A cp, rowN_length, Int.toNat_natCast, add_plain] at hx6
                rw [rdL_mk A cp, rowN_length] at hi6
                obtain ⟨ad7, e7, hx7⟩ := Kd.at_int hi6 (c : Int) (by omega) (by omega)
                subst e7
                rw [rd_rowN _ cc, Int.toNat_natCast] at hx7
                obtain ⟨x, hx⟩ : ∃ x : Int, x = ((A p c : Nat) : Int) := ⟨_, rfl⟩
                rw [← hx] at hx7
                have pp1 : (0 ≤ (p : Int)) = True := eq_true (by omega)
                have pp2 : ((p : Int) < (n : Int)) = True := eq_true (by omega)
                have pc1 : (0 ≤ (c : Int)) = True := eq_true (by omega)
                have pc2 : ((c : Int) < (n : Int)) = True := eq_true (by omega)
                by_cases h0 : A p c = 0
                · have x0 : (x == 0) = true := by rw [hx, h0]; rfl
                  have x1 : decide (x = 0) = true := decide_eq_true (by rw [hx, h0]; rfl)
                  have HX := Aside0.mk hx
                  have H0 := Aside0.mk h0
                  clear hx h0 rl hi6 hl6
                  go_wp2
                  go_roundg (n - (p + 1))
                  case measure => have := HKP.out; omega
                  case rel => exact ⟨p + 1, by first | rfl | rw [wsucc (by omega)], ⟨by have := HP1.out; omega⟩, ⟨by omega⟩, ⟨rfl⟩, ⟨by rw [← HF.out, show n - p = n - (p + 1) + 1 by omega, findP, if_pos H0.out]⟩, ⟨by (with_reducible repeat (first | apply Kd.S_alloc | apply Kd.S_drewN | apply Kd.S_drew)); exact HS5.out⟩, ⟨by (with_reducible repeat (first | apply Kd.S_alloc | apply Kd.S_drewN | apply Kd.S_drew)); exact HS4.out⟩, ⟨by repeat (first | exact HBW.out | apply below_alloc | apply pw_below_drewN | apply below_drew1)⟩⟩
                · have x0 : (x == 0) = false := beq_eq_false_iff_ne.mpr (by omega)
                  have x1 : decide (x = 0) = false := decide_eq_false (by omega)
                  have HX := Aside0.mk hx
                  have H0 := Aside0.mk h0
                  have HFP := Aside0.mk (show findP A c (n - c) c = some p by rw [← HF.out, show n - p = n - (p + 1) + 1 by omega, findP, if_neg h0])
                  have cnb : ((p : Int) == (n : Int)) = false := beq_eq_false_iff_ne.mpr (by omega)
                  have cnd : decide ((p : Int) = (n : Int)) = false := decide_eq_false (by omega)
                  clear hx h0 rl hi6 hl6
                  go_wp2
                  have le_base18 : ∀ {x : Nat}, w.heap.size ≤ x → w.heap.size ≤ x := fun h_ => h_
                  have le_base19 : ∀ {x : Nat}, w.heap.size ≤ x → w.heap.size ≤ x := fun h_ => h_
                  have rl18 := (Kd.S_reads' HS5.out).2.2
                  obtain ⟨adc18, Bc18, dc18, ec18, hxc18, hlc18, hic18⟩ := at_L3 rl18 (c : Int) (by omega) (by rw [mk_length]; omega)
                  obtain rfl : (⟨g5, 0, none⟩ : Addr) = adc18 := by injection ec18
                  rw [rdL_mk A cc, rowN_length, Int.toNat_natCast, add_plain] at hxc18
                  clear hlc18 hic18
                  obtain ⟨adp18, Bp18, dp18, ep18, hxp18, hlp18, hip18⟩ := at_L3 rl18 (p : Int) (by omega) (by rw [mk_length]; omega)
                  obtain rfl : (⟨g5, 0, none⟩ : Addr) = adp18 := by injection ep18
                  rw [rdL_mk A cp, rowN_length, Int.toNat_natCast, add_plain] at hxp18
                  clear hlp18 hip18
                  clear rl18
                  have ma18 := Kd.S_drew HS5.out
                  have ot18 := Kd.S_drew HS4.out
                  have hb18 := below_drew1 HBW.out
                  refine start_ (n := 16) (S := fun w' => w'.cell? ⟨g5, c, none⟩ = some (.slice Bc18 n dc18) ∧ w'.cell? ⟨g5, p, none⟩ = some (.slice Bp18 n dp18)) (ds := [13, 15]) #[false, false, false, false, false, false, false, false, false, false, false, false, false, false, false, false] (by kernel_rfl) rfl rfl ⟨hxc18, hxp18⟩ (fun hHeld => ?_)
                  generalize wr.drew = v18 at ma18 ot18 hb18 hHeld ⊢
                  have hfc18 : v18.frozen? ⟨g5, c, none⟩ = false := by obtain ⟨_, h_⟩ := Kd.S_own ma18; rw [mk_length] at h_; exact h_.frozenAt c
                  have hfp18 : v18.frozen? ⟨g5, p, none⟩ = false := by obtain ⟨_, h_⟩ := Kd.S_own ma18; rw [mk_length] at h_; exact h_.frozenAt p
                  have hz18 := second_cell (by rfl) ma18 cc cp hHeld.2
                  refine pure_ (i := 0) (N := some 66) (v := ?_) (a' := ?_) #[true, false, false, false, false, false, false, false, false, false, false, false, false, false, false, false] rfl rfl (by kernel_rfl) (fun _ _ _ h => h) (Or.inl ⟨by rfl, ?_⟩) ?_ ?_
                  rotate_left
                  · intro w'
                    go_simp
                    with_reducible rfl
                  rotate_left
                  · simp only [Act.put, List.setIfInBounds_toArray, List.set_cons_zero, List.set_cons_succ, i64_w, i32_w]
                    rfl
                  refine pure_ (i := 1) (N := some 67) (v := ?_) (a' := ?_) #[true, true, false, false, false, false, false, false, false, false, false, false, false, false, false, false] rfl rfl (by kernel_rfl) (fun _ _ _ h => h) (Or.inl ⟨by rfl, ?_⟩) ?_ ?_
                  rotate_left
                  · intro w'
                    go_simp
                    with_reducible rfl
                  rotate_left
                  · simp only [Act.put, List.setIfInBounds_toArray, List.set_cons_zero, List.set_cons_succ, i64_w, i32_w]
                    rfl
                  refine pure_ (i := 2) (N := some 68) (v := ?_) (a' := ?_) #[true, true, true, false, false, false, false, false, false, false, false, false, false, false, false, false] rfl rfl (by kernel_rfl) (fun _ _ _ h => h) (Or.inl ⟨by rfl, ?_⟩) ?_ ?_
                  rotate_left
                  · intro w'
                    go_simp
                    with_reducible rfl
                  rotate_left
                  · simp only [Act.put, List.setIfInBounds_toArray, List.set_cons_zero, List.set_cons_succ, i64_w, i32_w]
                    rfl
                  refine pure_ (i := 3) (N := some 69) (v := ?_) (a' := ?_) #[true, true, true, true, false, false, false, false, false, false, false, false, false, false, false, false] rfl rfl (by kernel_rfl) (fun _ _ _ h => h) (Or.inl ⟨by rfl, ?_⟩) ?_ ?_
                  rotate_left
                  · intro w'
                    go_simp
                    with_reducible rfl
                  rotate_left
                  · simp only [Act.put, List.setIfInBounds_toArray, List.set_cons_zero, List.set_cons_succ, i64_w, i32_w]
                    rfl
                  refine pure_ (i := 4) (N := some 70) (v := ?_) (a' := ?_) #[true, true, true, true, true, false, false, false, false, false, false, false, false, false, false, false] rfl rfl (by kernel_rfl) (fun _ _ _ h => h) (Or.inl ⟨by rfl, ?_⟩) ?_ ?_
                  rotate_left
                  · intro w'
                    go_simp
                    with_reducible rfl
                  rotate_left
                  · simp only [Act.put, List.setIfInBounds_toArray, List.set_cons_zero, List.set_cons_succ, i64_w, i32_w]
                    rfl
                  refine pure_ (i := 5) (N := some 71) (v := ?_) (a' := ?_) #[true, true, true, true, true, true, false, false, false, false, false, false, false, false, false, false] rfl rfl (by kernel_rfl) (fun _ _ _ h => h) (Or.inl ⟨by rfl, ?_⟩) ?_ ?_
                  rotate_left
                  · intro w'
                    go_simp
                    with_reducible rfl
                  rotate_left
                  · simp only [Act.put, List.setIfInBounds_toArray, List.set_cons_zero, List.set_cons_succ, i64_w, i32_w]
                    rfl
                  refine pure_ (i := 6) (N := some 72) (v := ?_) (a' := ?_) #[true, true, true, true, true, true, true, false, false, false, false, false, false, false, false, false] rfl rfl (by kernel_rfl) (fun _ _ _ h => h) (Or.inl ⟨by rfl, ?_⟩) ?_ ?_
                  rotate_left
                  · intro w'
                    go_simp
                    with_reducible rfl
                  rotate_left
                  · simp only [Act.put, List.setIfInBounds_toArray, List.set_cons_zero, List.set_cons_succ, i64_w, i32_w]
                    rfl
                  refine pure_ (i := 8) (N := some 74) (v := ?_) (a' := ?_) #[true, true, true, true, true, true, true, false, true, false, false, false, false, false, false, false] rfl rfl (by kernel_rfl) (fun _ _ _ h => h) (Or.inl ⟨by rfl, ?_⟩) ?_ ?_
                  rotate_left
                  · intro w'
                    go_simp
                    with_reducible rfl
                  rotate_left
                  · simp only [Act.put, List.setIfInBounds_toArray, List.set_cons_zero, List.set_cons_succ, i64_w, i32_w]
                    rfl
                  refine pure_ (i := 9) (N := some 75) (v := ?_) (a' := ?_) #[true, true, true, true, true, true, true, false, true, true, false, false, false, false, false, false] rfl rfl (by kernel_rfl) (fun _ _ _ h => h) (Or.inl ⟨by rfl, ?_⟩) ?_ ?_
                  rotate_left
                  · intro w'
                    go_simp
                    with_reducible rfl
                  rotate_left
                  · simp only [Act.put, List.setIfInBounds_toArray, List.set_cons_zero, List.set_cons_succ, i64_w, i32_w]
                    rfl
                  refine pure_ (i := 10) (N := some 76) (v := ?_) (a' := ?_) #[true, true, true, true, true, true, true, false, true, true, true, false, false, false, false, false] rfl rfl (by kernel_rfl) (fun _ _ _ h => h) (Or.inl ⟨by rfl, ?_⟩) ?_ ?_
                  rotate_left
                  · intro w'
                    go_simp
                    with_reducible rfl
                  rotate_left
                  · simp only [Act.put, List.setIfInBounds_toArray, List.set_cons_zero, List.set_cons_succ, i64_w, i32_w]
                    rfl
                  refine take_ (i := 7) (N := some 73) (v := ?_) (a' := ?_) #[true, true, true, true, true, true, true, true, true, true, true, false, false, false, false, false] rfl rfl (by kernel_rfl) (fun _ _ _ h => h) (Or.inl ⟨by rfl, ?_⟩) hHeld ?_ ?_
                  rotate_left
                  · rintro w' ⟨s0, s1⟩
                    go_simp
                    with_reducible rfl
                  rotate_left
                  · simp only [Act.put, List.setIfInBounds_toArray, List.set_cons_zero, List.set_cons_succ, i64_w, i32_w]
                    rfl
                  refine take_ (i := 11) (N := some 77) (v := ?_) (a' := ?_) #[true, true, true, true, true, true, true, true, true, true, true, true, false, false, false, false] rfl rfl (by kernel_rfl) (fun _ _ _ h => h) (Or.inl ⟨by rfl, ?_⟩) hHeld ?_ ?_
                  rotate_left
                  · rintro w' ⟨s0, s1⟩
                    go_simp
                    with_reducible rfl
                  rotate_left
                  · simp only [Act.put, List.setIfInBounds_toArray, List.set_cons_zero, List.set_cons_succ, i64_w, i32_w]
                    rfl
                  refine pure_ (i := 12) (N := some 78) (v := ?_) (a' := ?_) #[true, true, true, true, true, true, true, true, true, true, true, true, true, false, false, false] rfl rfl (by kernel_rfl) (fun _ _ _ h => h) (Or.inl ⟨by rfl, ?_⟩) ?_ ?_
                  rotate_left
                  · intro w'
                    go_simp
                    with_reducible rfl
                  rotate_left
                  · simp only [Act.put, List.setIfInBounds_toArray, List.set_cons_zero, List.set_cons_succ, i64_w, i32_w]
                    rfl
                  refine last_ (i := 13) (N := none) #[true, true, true, true, true, true, true, true, true, true, true, true, true, true, false, false] rfl rfl (by kernel_rfl) (by decide) (fun K hK => ?_)
                  refine skip_ (w1 := ?_) (by rfl) rfl ?_ ?_
                  rotate_left
                  · go_simp
                    rfl
                  refine hK.out _ _ ?_
                  clear hK K
                  refine pure_ (i := 14) (N := some 79) (v := ?_) (a' := ?_) #[true, true, true, true, true, true, true, true, true, true, true, true, true, true, true, false] rfl rfl (by kernel_rfl) (fun _ _ _ h => h) (Or.inl ⟨by rfl, ?_⟩) ?_ ?_
                  rotate_left
                  · intro w'
                    go_simp
                    with_reducible rfl
                  rotate_left
                  · simp only [Act.put, List.setIfInBounds_toArray, List.set_cons_zero, List.set_cons_succ, i64_w, i32_w]
                    rfl
                  refine last_ (i := 15) (N := none) #[true, true, true, true, true, true, true, true, true, true, true, true, true, true, true, true] rfl rfl (by kernel_rfl) (by decide) (fun K hK => ?_)
                  refine skip_ (w1 := ?_) (by rfl) rfl ?_ ?_
                  rotate_left
                  · go_simp
                    rfl
                  refine hK.out _ _ ?_
                  clear hK K
                  refine done_ (by kernel_rfl) ?_
                  have sw18 := S_swap (by rfl) ma18 cc cp hHeld.1 hHeld.2 []
                  rw [mk_getN A cc, mk_getN A cp, swap_list2 A cp cc] at sw18
                  have of18 := Kd.S_far (Kd.S_far ot18 (p := ⟨g5, c, none⟩) (fun k_ hk_ => by have h_ := (Kd.S_R ma18).1 g5 rfl; simp only at h_ ⊢; omega) (.slice Bp18 n dp18)) (p := ⟨g5, p, none⟩) (fun k_ hk_ => by have h_ := (Kd.S_R ma18).1 g5 rfl; simp only at h_ ⊢; omega) (.slice Bc18 n dc18)
                  have bf18 := below_set (below_set hb18 (j := c) (v := (.slice Bp18 n dp18)) (Kd.S_base ma18 g5 rfl |> le_base18)) (j := p) (v := (.slice Bc18 n dc18)) (Kd.S_base ma18 g5 rfl |> le_base18)
                  generalize hW18 : (World.setCell (World.setCell v18 ⟨g5, c, none⟩ (.slice Bp18 n dp18)) ⟨g5, p, none⟩ (.slice Bc18 n dc18)) = W18 at sw18 of18 bf18 ⊢
                  clear hz18 hHeld hfc18 hfp18 hW18 hxc18 hxp18 ma18 ot18 hb18
                  go_wp2
                  have rl19 := (Kd.S_reads' of18).2.2
                  obtain ⟨adc19, Bc19, dc19, ec19, hxc19, hlc19, hic19⟩ := at_L3 rl19 (c : Int) (by omega) (by rw [mk_length]; omega)
                  obtain rfl : (⟨g4, 0, none⟩ : Addr) = adc19 := by injection ec19
                  rw [rdL_mk B cc, rowN_length, Int.toNat_natCast, add_plain] at hxc19
                  clear hlc19 hic19
                  obtain ⟨adp19, Bp19, dp19, ep19, hxp19, hlp19, hip19⟩ := at_L3 rl19 (p : Int) (by omega) (by rw [mk_length]; omega)
                  obtain rfl : (⟨g4, 0, none⟩ : Addr) = adp19 := by injection ep19
                  rw [rdL_mk B cp, rowN_length, Int.toNat_natCast, add_plain] at hxp19
                  clear hlp19 hip19
                  clear rl19
                  have ma19 := Kd.S_drew of18
                  have ot19 := Kd.S_drew sw18
                  have hb19 := below_drew1 bf18
                  refine start_ (n := 16) (S := fun w' => w'.cell? ⟨g4, c, none⟩ = some (.slice Bc19 n dc19) ∧ w'.cell? ⟨g4, p, none⟩ = some (.slice Bp19 n dp19)) (ds := [13, 15]) #[false, false, false, false, false, false, false, false, false, false, false, false, false, false, false, false] (by kernel_rfl) rfl rfl ⟨hxc19, hxp19⟩ (fun hHeld => ?_)
                  generalize W18.drew = v19 at ma19 ot19 hb19 hHeld ⊢
                  have hfc19 : v19.frozen? ⟨g4, c, none⟩ = false := by obtain ⟨_, h_⟩ := Kd.S_own ma19; rw [mk_length] at h_; exact h_.frozenAt c
                  have hfp19 : v19.frozen? ⟨g4, p, none⟩ = false := by obtain ⟨_, h_⟩ := Kd.S_own ma19; rw [mk_length] at h_; exact h_.frozenAt p
                  have hz19 := second_cell (by rfl) ma19 cc cp hHeld.2
                  refine pure_ (i := 0) (N := some 80) (v := ?_) (a' := ?_) #[true, false, false, false, false, false, false, false, false, false, false, false, false, false, false, false] rfl rfl (by kernel_rfl) (fun _ _ _ h => h) (Or.inl ⟨by rfl, ?_⟩) ?_ ?_
                  rotate_left
                  · intro w'
                    go_simp
                    with_reducible rfl
                  rotate_left
                  · simp only [Act.put, List.setIfInBounds_toArray, List.set_cons_zero, List.set_cons_succ, i64_w, i32_w]
                    rfl
                  refine pure_ (i := 1) (N := some 81) (v := ?_) (a' := ?_) #[true, true, false, false, false, false, false, false, false, false, false, false, false, false, false, false] rfl rfl (by kernel_rfl) (fun _ _ _ h => h) (Or.inl ⟨by rfl, ?_⟩) ?_ ?_
                  rotate_left
                  · intro w'
                    go_simp
                    with_reducible rfl
                  rotate_left
                  · simp only [Act.put, List.setIfInBounds_toArray, List.set_cons_zero, List.set_cons_succ, i64_w, i32_w]
                    rfl
                  refine pure_ (i := 2) (N := some 82) (v := ?_) (a' := ?_) #[true, true, true, false, false, false, false, false, false, false, false, false, false, false, false, false] rfl rfl (by kernel_rfl) (fun _ _ _ h => h) (Or.inl ⟨by rfl, ?_⟩) ?_ ?_
                  rotate_left
                  · intro w'
                    go_simp
                    with_reducible rfl
                  rotate_left
                  · simp only [Act.put, List.setIfInBounds_toArray, List.set_cons_zero, List.set_cons_succ, i64_w, i32_w]
                    rfl
                  refine pure_ (i := 3) (N := some 83) (v := ?_) (a' := ?_) #[true, true, true, true, false, false, false, false, false, false, false, false, false, false, false, false] rfl rfl (by kernel_rfl) (fun _ _ _ h => h) (Or.inl ⟨by rfl, ?_⟩) ?_ ?_
                  rotate_left
                  · intro w'
                    go_simp
                    with_reducible rfl
                  rotate_left
                  · simp only [Act.put, List.setIfInBounds_toArray, List.set_cons_zero, List.set_cons_succ, i64_w, i32_w]
                    rfl
                  refine pure_ (i := 4) (N := some 84) (v := ?_) (a' := ?_) #[true, true, true, true, true, false, false, false, false, false, false, false, false, false, false, false] rfl rfl (by kernel_rfl) (fun _ _ _ h => h) (Or.inl ⟨by rfl, ?_⟩) ?_ ?_
                  rotate_left
                  · intro w'
                    go_simp
                    with_reducible rfl
                  rotate_left
                  · simp only [Act.put, List.setIfInBounds_toArray, List.set_cons_zero, List.set_cons_succ, i64_w, i32_w]
                    rfl
                  refine pure_ (i := 5) (N := some 85) (v := ?_) (a' := ?_) #[true, true, true, true, true, true, false, false, false, false, false, false, false, false, false, false] rfl rfl (by kernel_rfl) (fun _ _ _ h => h) (Or.inl ⟨by rfl, ?_⟩) ?_ ?_
                  rotate_left
                  · intro w'
                    go_simp
                    with_reducible rfl
                  rotate_left
                  · simp only [Act.put, List.setIfInBounds_toArray, List.set_cons_zero, List.set_cons_succ, i64_w, i32_w]
                    rfl
                  refine pure_ (i := 6) (N := some 86) (v := ?_) (a' := ?_) #[true, true, true, true, true, true, true, false, false, false, false, false, false, false, false, false] rfl rfl (by kernel_rfl) (fun _ _ _ h => h) (Or.inl ⟨by rfl, ?_⟩) ?_ ?_
                  rotate_left
                  · intro w'
                    go_simp
                    with_reducible rfl
                  rotate_left
                  · simp only [Act.put, List.setIfInBounds_toArray, List.set_cons_zero, List.set_cons_succ, i64_w, i32_w]
                    rfl
                  refine pure_ (i := 8) (N := some 88) (v := ?_) (a' := ?_) #[true, true, true, true, true, true, true, false, true, false, false, false, false, false, false, false] rfl rfl (by kernel_rfl) (fun _ _ _ h => h) (Or.inl ⟨by rfl, ?_⟩) ?_ ?_
                  rotate_left
                  · intro w'
                    go_simp
                    with_reducible rfl
                  rotate_left
                  · simp only [Act.put, List.setIfInBounds_toArray, List.set_cons_zero, List.set_cons_succ, i64_w, i32_w]
                    rfl
                  refine pure_ (i := 9) (N := some 89) (v := ?_) (a' := ?_) #[true, true, true, true, true, true, true, false, true, true, false, false, false, false, false, false] rfl rfl (by kernel_rfl) (fun _ _ _ h => h) (Or.inl ⟨by rfl, ?_⟩) ?_ ?_
                  rotate_left
                  · intro w'
                    go_simp
                    with_reducible rfl
                  rotate_left
                  · simp only [Act.put, List.setIfInBounds_toArray, List.set_cons_zero, List.set_cons_succ, i64_w, i32_w]
                    rfl
                  refine pure_ (i := 10) (N := some 90) (v := ?_) (a' := ?_) #[true, true, true, true, true, true, true, false, true, true, true, false, false, false, false, false] rfl rfl (by kernel_rfl) (fun _ _ _ h => h) (Or.inl ⟨by rfl, ?_⟩) ?_ ?_
                  rotate_left
                  · intro w'
                    go_simp
                    with_reducible rfl
                  rotate_left
                  · simp only [Act.put, List.setIfInBounds_toArray, List.set_cons_zero, List.set_cons_succ, i64_w, i32_w]
                    rfl
                  refine take_ (i := 7) (N := some 87) (v := ?_) (a' := ?_) #[true, true, true, true, true, true, true, true, true, true, true, false, false, false, false, false] rfl rfl (by kernel_rfl) (fun _ _ _ h => h) (Or.inl ⟨by rfl, ?_⟩) hHeld ?_ ?_
                  rotate_left
                  · rintro w' ⟨s0, s1⟩
                    go_simp
                    with_reducible rfl
                  rotate_left
                  · simp only [Act.put, List.setIfInBounds_toArray, List.set_cons_zero, List.set_cons_succ, i64_w, i32_w]
                    rfl
                  refine take_ (i := 11) (N := some 91) (v := ?_) (a' := ?_) #[true, true, true, true, true, true, true, true, true, true, true, true, false, false, false, false] rfl rfl (by kernel_rfl) (fun _ _ _ h => h) (Or.inl ⟨by rfl, ?_⟩) hHeld ?_ ?_
                  rotate_left
                  · rintro w' ⟨s0, s1⟩
                    go_simp
                    with_reducible rfl
                  rotate_left
                  · simp only [Act.put, List.setIfInBounds_toArray, List.set_cons_zero, List.set_cons_succ, i64_w, i32_w]
                    rfl
                  refine pure_ (i := 12) (N := some 92) (v := ?_) (a' := ?_) #[true, true, true, true, true, true, true, true, true, true, true, true, true, false, false, false] rfl rfl (by kernel_rfl) (fun _ _ _ h => h) (Or.inl ⟨by rfl, ?_⟩) ?_ ?_
                  rotate_left
                  · intro w'
                    go_simp
                    with_reducible rfl
                  rotate_left
                  · simp only [Act.put, List.setIfInBounds_toArray, List.set_cons_zero, List.set_cons_succ, i64_w, i32_w]
                    rfl
                  refine last_ (i := 13) (N := none) #[true, true, true, true, true, true, true, true, true, true, true, true, true, true, false, false] rfl rfl (by kernel_rfl) (by decide) (fun K hK => ?_)
                  refine skip_ (w1 := ?_) (by rfl) rfl ?_ ?_
                  rotate_left
                  · go_simp
                    rfl
                  refine hK.out _ _ ?_
                  clear hK K
                  refine pure_ (i := 14) (N := some 93) (v := ?_) (a' := ?_) #[true, true, true, true, true, true, true, true, true, true, true, true, true, true, true, false] rfl rfl (by kernel_rfl) (fun _ _ _ h => h) (Or.inl ⟨by rfl, ?_⟩) ?_ ?_
                  rotate_left
                  · intro w'
                    go_simp
                    with_reducible rfl
                  rotate_left
                  · simp only [Act.put, List.setIfInBounds_toArray, List.set_cons_zero, List.set_cons_succ, i64_w, i32_w]
                    rfl
                  refine last_ (i := 15) (N := none) #[true, true, true, true, true, true, true, true, true, true, true, true, true, true, true, true] rfl rfl (by kernel_rfl) (by decide) (fun K hK => ?_)
                  refine skip_ (w1 := ?_) (by rfl) rfl ?_ ?_
                  rotate_left
                  · go_simp
                    rfl
                  refine hK.out _ _ ?_
                  clear hK K
                  refine done_ (by kernel_rfl) ?_
                  have sw19 := S_swap (by rfl) ma19 cc cp hHeld.1 hHeld.2 []
                  rw [mk_getN B cc, mk_getN B cp, swap_list2 B cp cc] at sw19
                  have of19 := Kd.S_far (Kd.S_far ot19 (p := ⟨g4, c, none⟩) (fun k_ hk_ => by have h_ := (Kd.S_R ma19).1 g4 rfl; simp only at h_ ⊢; omega) (.slice Bp19 n dp19)) (p := ⟨g4, p, none⟩) (fun k_ hk_ => by have h_ := (Kd.S_R ma19).1 g4 rfl; simp only at h_ ⊢; omega) (.slice Bc19 n dc19)
                  have bf19 := below_set (below_set hb19 (j := c) (v := (.slice Bp19 n dp19)) (Kd.S_base ma19 g4 rfl |> le_base19)) (j := p) (v := (.slice Bc19 n dc19)) (Kd.S_base ma19 g4 rfl |> le_base19)
                  generalize hW19 : (World.setCell (World.setCell v19 ⟨g4, c, none⟩ (.slice Bp19 n dp19)) ⟨g4, p, none⟩ (.slice Bc19 n dc19)) = W19 at sw19 of19 bf19 ⊢
                  clear hz19 hHeld hfc19 hfp19 hW19 hxc19 hxp19 ma19 ot19 hb19
                  have pc : swapM p c A c c = A p c := by unfold swapM; rw [if_pos rfl]
                  have hpn := cp
                  obtain ⟨ad20, B20, d20, e20, hx20, hl20, hi20⟩ := at_L3 (Kd.S_reads' of19).2.2 (c : Int) (by omega) (by rw [mk_length]; omega)
                  obtain rfl : (⟨g5, 0, none⟩ : Addr) = ad20 := (by injection e20)
                  rw [rdL_mk _ cc, rowN_length, Int.toNat_natCast, add_plain] at hx20
                  rw [rdL_mk _ cc, rowN_length] at hi20
                  rw [rdL_mk _ cc, rowN_length] at hl20
                  obtain ⟨ok20, ce20, hcl20, hM20, hcc20, ho20, hH20⟩ := Kd.S_lend of19 [] (c : Int) (by omega) (by omega)
                  obtain ⟨ve20, rfl, hR20⟩ := hM20
                  have hv20 := hcc20 0 _ rfl
                  simp only [show ((Kd.slice 3 (Kd.int .i64))).sz = 1 from rfl, Nat.mul_one, Nat.add_zero, Int.toNat_natCast] at hv20
                  obtain rfl : Value.slice B20 n d20 = ve20 := Option.some.inj (hx20.symm.trans hv20)
                  rw [Int.toNat_natCast, mk_getN _ cc] at hR20
                  clear hv20 hcc20 hcl20
                  obtain ⟨ad21, e21, hx21⟩ := Kd.at_int hi20 (c : Int) (by omega) (by omega)
                  subst e21
                  rw [rd_rowN _ cc, Int.toNat_natCast, pc] at hx21
                  obtain ⟨k3, e3⟩ := impl_InvG_ev (a := ((A p c : Nat) : Int)) (by have := hA.out p cp c cc; omega) (by have := hA.out p cp c cc; omega)
                  have e3 := e3 k3 (Nat.le_refl _)
                  rw [ginv_nat (hA.out p cp c cc) H0.out, show Gf.pow (A p c) 254 = gjV p c A from rfl] at e3
                  have sA := (swap_op cp cc).bytes _ hA.out
                  have sB := (swap_op cp cc).bytes _ hB.out
                  have hv : gjV p c A < 256 := Gf.pow_lt (hA.out p cp c cc) 254
                  obtain ⟨k4, e4⟩ := impl_scale_ev (n := n) (v := gjV p c A) (g := swapM p c A c) a2 hv (sA c cc)
                  have e4 := e4 k4 (Nat.le_refl _)
                  obtain ⟨k5, e5⟩ := impl_scale_ev (n := n) (v := gjV p c A) (g := swapM p c B c) a2 hv (sB c cc)
                  have e5 := e5 k5 (Nat.le_refl _)
                  have SA := Aside0.mk ((scale_op (n := n) (c := c) cc hv).bytes _ sA)
                  have SB := Aside0.mk ((scale_op (n := n) (c := c) cc hv).bytes _ sB)
                  have HI20 := Aside0.mk hi20
                  clear sA sB hv hi20 hl20
                  obtain ⟨XA, hXA⟩ : ∃ X, X = scaleM c (gjV p c A) (swapM p c A) := ⟨_, rfl⟩
                  obtain ⟨XB, hXB⟩ : ∃ X, X = scaleM c (gjV p c A) (swapM p c B) := ⟨_, rfl⟩
                  rw [← hXA] at SA
                  rw [← hXB] at SB
                  go_wp2_with (first | ((with_reducible refine gate_callee (f := 50) rfl ?_); refine goesL_ (some 101) rfl rfl Try.func50 (by kernel_rfl) rfl #[.int .i64 ((A p c : Nat) : Int)] rfl (by (try simp only [List.map_toArray, List.map_cons, List.map_nil]); first | done | rfl) ?_; (with_reducible refine (impl_InvG.calls k3 _ _ _ e3).mono ?_); rintro e w' ⟨rfl, ⟨nd, rfl⟩⟩; refine ⟨_, rfl, ?_⟩) | ((with_reducible refine gate_callee (f := 56) rfl ?_); refine goesL_ (some 107) rfl rfl Try.func56 (by kernel_rfl) rfl #[.slice (some ad21) n d20, .int .i64 ((gjV p c A : Nat) : Int)] rfl (by (try simp only [List.map_toArray, List.map_cons, List.map_nil]); first | done | rfl) ?_; (with_reducible refine (impl_scale.calls k4 ok20 (.slice (some ad21) n d20) (rowN n (swapM p c A c)) ((gjV p c A : Nat) : Int) (rowN n (fun j => Gf.mul (gjV p c A) (swapM p c A c j))) w _ ?side1 ?side2 e4).mono ?_); (case side1 => repeat (first | exact bf19 | apply below_alloc | apply pw_below_drewN | apply below_drew1)); (case side2 => (with_reducible repeat (first | apply Kd.R_alloc | apply Kd.R_drewN | apply Kd.R_drew)); exact hR20); rintro e W21 ⟨rfl, hy0, hb21, hkp⟩; refine ⟨_, rfl, ?_⟩; have n0_ := Kd.H_back (Kd.H_kept (by (with_reducible repeat (first | apply Kd.H_alloc | apply Kd.H_drewN | apply Kd.H_drew)); exact hH20) hkp (fun k_ _ hn => hn)) (Kd.M_row (Kd.R_reok (ok := ok20) rfl hy0 (fun k_ e_ => hR20.1 k_ e_))) (fun _ h_ => h_); have sw21 := Kd.S_kept (by (with_reducible repeat (first | apply Kd.S_alloc | apply Kd.S_drewN | apply Kd.S_drew)); exact sw19) hkp (fun k_ hk_ hs_ => absurd hk_ (Nat.not_lt.mpr (ho20 k_ hs_).1)); rw [Int.toNat_natCast, scale_list _ cc, ← hXA] at n0_; clear hy0 hkp hH20; clear hx20 hx21; obtain ⟨ad22, B22, d22, e22, hx22, hl22, hi22⟩ := at_L3 (Kd.S_reads' sw21).2.2 (c : Int) (by omega) (by rw [mk_length]; omega); obtain rfl : (⟨g4, 0, none⟩ : Addr) = ad22 := (by injection e22); rw [rdL_mk _ cc, rowN_length, Int.toNat_natCast, add_plain] at hx22; rw [rdL_mk _ cc, rowN_length] at hi22; rw [rdL_mk _ cc, rowN_length] at hl22; obtain ⟨ok22, ce22, hcl22, hM22, hcc22, ho22, hH22⟩ := Kd.S_lend sw21 [] (c : Int) (by omega) (by omega); obtain ⟨ve22, rfl, hR22⟩ := hM22; have hv22 := hcc22 0 _ rfl; simp only [show ((Kd.slice 3 (Kd.int .i64))).sz = 1 from rfl, Nat.mul_one, Nat.add_zero, Int.toNat_natCast] at hv22; obtain rfl : Value.slice B22 n d22 = ve22 := Option.some.inj (hx22.symm.trans hv22); rw [Int.toNat_natCast, mk_getN _ cc] at hR22; clear hv22 hcc22 hcl22) | ((with_reducible refine gate_callee (f := 56) rfl ?_); refine goesL_ (some 113) rfl rfl Try.func56 (by kernel_rfl) rfl #[.slice B22 n d22, .int .i64 ((gjV p c A : Nat) : Int)] rfl (by (try simp only [List.map_toArray, List.map_cons, List.map_nil]); first | done | rfl) ?_; (with_reducible refine (impl_scale.calls k5 ok22 (.slice B22 n d22) (rowN n (swapM p c B c)) ((gjV p c A : Nat) : Int) (rowN n (fun j => Gf.mul (gjV p c A) (swapM p c B c j))) w _ ?side1 ?side2 e5).mono ?_); (case side1 => repeat (first | exact hb21 | apply below_alloc | apply pw_below_drewN | apply below_drew1)); (case side2 => (with_reducible repeat (first | apply Kd.R_alloc | apply Kd.R_drewN | apply Kd.R_drew)); exact hR22); rintro e W22 ⟨rfl, hy0, hb22, hkp⟩; refine ⟨_, rfl, ?_⟩; have m1_ := Kd.H_back (Kd.H_kept (by (with_reducible repeat (first | apply Kd.H_alloc | apply Kd.H_drewN | apply Kd.H_drew)); exact hH22) hkp (fun k_ _ hn => hn)) (Kd.M_row (Kd.R_reok (ok := ok22) rfl hy0 (fun k_ e_ => hR22.1 k_ e_))) (fun _ h_ => h_); have n1_ := Kd.S_kept (by (with_reducible repeat (first | apply Kd.S_alloc | apply Kd.S_drewN | apply Kd.S_drew)); exact n0_) hkp (fun k_ hk_ hs_ => absurd (ho22 k_ hs_).1 (Nat.not_lt.mpr hk_)); rw [Int.toNat_natCast, scale_list _ cc, ← hXB] at m1_; clear hy0 hkp hH22; clear hx22 n0_ sw21 hb21))
                  have hT : ∀ i, gjT p c A i = XA i c := fun i => by rw [hXA]; rfl
                  obtain ⟨T, hTT⟩ : ∃ T, T = gjT p c A := ⟨_, rfl⟩
                  rw [← hTT] at hT
                  have HT := Aside0.mk hT
                  have HTT := Aside0.mk hTT
                  have HXA := Aside0.mk hXA
                  have HXB := Aside0.mk hXB
                  have M5 := Aside0.mk (show Kd.S (Kd.slice 3 (Kd.int .i64)) 32 W22 w.heap.size (fun k_ => N1.heap.size ≤ k_) (.slice (some ⟨g5, 0, none⟩) n c5) (mk n n (partM c T 0 XA)) by rw [part_zero]; exact n1_)
                  have M4 := Aside0.mk (show Kd.S (Kd.slice 3 (Kd.int .i64)) 32 W22 w.heap.size (fun k_ => k_ < N1.heap.size) (.slice (some ⟨g4, 0, none⟩) n c1) (mk n n (partM c T 0 XB)) by rw [part_zero]; exact m1_)
                  have HB22 := Aside0.mk hb22
                  clear hT hTT hXA hXB hR20 ho20 HI20 e3 e4 e5 hR22 ho22 hi22 hl22 n1_ m1_ bf18 sw18 of18 bf19 sw19 of19 pc hb22 HS5 HS4 HBW le_base18 le_base19
                  go_loopg [116] n (fun kq v116 w' => ∃ i0 : Nat, v116 = .int .i64 (i0 : Int) ∧ Aside0 (i0 ≤ n) ∧ Aside0 (kq = n - i0) ∧ Aside0 (Kd.S (Kd.slice 3 (Kd.int .i64)) 32 w' w.heap.size (fun k_ => N1.heap.size ≤ k_) (.slice (some ⟨g5, 0, none⟩) n c5) (mk n n (partM c T i0 XA))) ∧ Aside0 (Kd.S (Kd.slice 3 (Kd.int .i64)) 32 w' w.heap.size (fun k_ => k_ < N1.heap.size) (.slice (some ⟨g4, 0, none⟩) n c1) (mk n n (partM c T i0 XB))) ∧ Aside0 (Below w.heap.size w w'))
                  case atStart => exact ⟨0, rfl, ⟨Nat.zero_le _⟩, ⟨rfl⟩, ⟨by (with_reducible repeat (first | apply Kd.S_alloc | apply Kd.S_drewN | apply Kd.S_drew)); exact M5.out⟩, ⟨by (with_reducible repeat (first | apply Kd.S_alloc | apply Kd.S_drewN | apply Kd.S_drew)); exact M4.out⟩, ⟨by repeat (first | exact HB22.out | apply below_alloc | apply pw_below_drewN | apply below_drew1)⟩⟩
                  case round =>
                    clear M5 M4 HB22
                    obtain ⟨i0, rfl, HI0, HKI, HS5, HS4, HBW⟩ := hrel
                    by_cases ci : i0 < n
                    · have cib : decide ((i0 : Int) < (n : Int)) = true := decide_eq_true (by omega)
                      have cibn : (i0 < n) = True := eq_true (by omega)
                      have cibi : ((i0 : Int) < (n : Int)) = True := eq_true (by omega)
                      obtain ⟨ad26, B26, d26, e26, hx26, hl26, hi26⟩ := at_L3 (Kd.S_reads' HS5.out).2.2 (i0 : Int) (by omega) (by rw [mk_length]; omega)
                      obtain rfl : (⟨g5, 0, none⟩ : Addr) = ad26 := (by injection e26)
                      rw [rdL_mk _ ci, rowN_length, Int.toNat_natCast, add_plain] at hx26
                      rw [rdL_mk _ ci, rowN_length, part_row T XA (fun z_ => absurd z_.1 (Nat.lt_irrefl _))] at hi26
                      obtain ⟨ad27, e27, hx27⟩ := Kd.at_int hi26 (c : Int) (by omega) (by omega)
                      subst e27
                      rw [rd_rowN _ cc, Int.toNat_natCast, ← HT.out i0] at hx27
                      obtain ⟨t, ht⟩ : ∃ t : Int, t = ((T i0 : Nat) : Int) := ⟨_, rfl⟩
                      rw [← ht] at hx27
                      have pi1 : (0 ≤ (i0 : Int)) = True := eq_true (by omega)
                      have hi26 := Aside0.mk hi26
                      clear hl26
                      by_cases ic : i0 = c
                      · have nic : ((i0 : Int) != (c : Int)) = false := bne_eq_false_iff_eq.mpr (by omega)
                        have HC_ := Aside0.mk ic
                        have HT0 := Aside0.mk ht
                        clear ht ic
                        go_wp2
                        go_roundg (n - (i0 + 1))
                        case measure => have := HKI.out; omega
                        case rel => exact ⟨i0 + 1, by first | rfl | rw [wsucc (by omega)], ⟨by omega⟩, ⟨rfl⟩, ⟨by rw [part_same n c T i0 _ (Or.inl HC_.out)]; (with_reducible repeat (first | apply Kd.S_alloc | apply Kd.S_drewN | apply Kd.S_drew)); exact HS5.out⟩, ⟨by rw [part_same n c T i0 _ (Or.inl HC_.out)]; (with_reducible repeat (first | apply Kd.S_alloc | apply Kd.S_drewN | apply Kd.S_drew)); exact HS4.out⟩, ⟨by repeat (first | exact HBW.out | apply below_alloc | apply pw_below_drewN | apply below_drew1)⟩⟩
                      · have nic : ((i0 : Int) != (c : Int)) = true := bne_iff_ne.mpr (by omega)
                        by_cases t0 : T i0 = 0
                        · have tz : (t != 0) = false := bne_eq_false_iff_eq.mpr (by omega)
                          have HT0 := Aside0.mk ht
                          have HT1 := Aside0.mk t0
                          have HIC := Aside0.mk ic
                          clear ht ic t0
                          go_wp2
                          go_roundg (n - (i0 + 1))
                          case measure => have := HKI.out; omega
                          case rel => exact ⟨i0 + 1, by first | rfl | rw [wsucc (by omega)], ⟨by omega⟩, ⟨rfl⟩, ⟨by rw [part_same n c T i0 _ (Or.inr HT1.out)]; (with_reducible repeat (first | apply Kd.S_alloc | apply Kd.S_drewN | apply Kd.S_drew)); exact HS5.out⟩, ⟨by rw [part_same n c T i0 _ (Or.inr HT1.out)]; (with_reducible repeat (first | apply Kd.S_alloc | apply Kd.S_drewN | apply Kd.S_drew)); exact HS4.out⟩, ⟨by repeat (first | exact HBW.out | apply below_alloc | apply pw_below_drewN | apply below_drew1)⟩⟩
                        · have tz : (t != 0) = true := bne_iff_ne.mpr (by omega)
                          have hT0 : T i0 < 256 := by rw [HT.out i0]; exact SA.out i0 ci c cc
                          obtain ⟨k6, e6⟩ := impl_addTimes_ev (n := n) (t := T i0) (a := XA i0) (b := XA c) a2 hT0 (SA.out i0 ci) (SA.out c cc)
                          have e6 := e6 k6 (Nat.le_refl _)
                          obtain ⟨k7, e7⟩ := impl_addTimes_ev (n := n) (t := T i0) (a := XB i0) (b := XB c) a2 hT0 (SB.out i0 ci) (SB.out c cc)
                          have e7 := e7 k7 (Nat.le_refl _)
                          rw [← ht] at e6 e7
                          have HT0 := Aside0.mk ht
                          have HT1 := Aside0.mk t0
                          clear ht t0 hT0
                          go_wp2
                          obtain ⟨ad28, B28, d28, e28, hx28, hl28, hi28⟩ := at_L3 (Kd.S_reads' HS5.out).2.2 (i0 : Int) (by omega) (by rw [mk_length]; omega)
                          obtain rfl : (⟨g5, 0, none⟩ : Addr) = ad28 := (by injection e28)
                          rw [rdL_mk _ ci, rowN_length, Int.toNat_natCast, add_plain] at hx28
                          rw [rdL_mk _ ci, rowN_length] at hi28
                          rw [rdL_mk _ ci, rowN_length] at hl28
                          obtain ⟨ok28, ce28, hcl28, hM28, hcc28, ho28, hH28⟩ := Kd.S_lend HS5.out [] (i0 : Int) (by omega) (by omega)
                          obtain ⟨ve28, rfl, hR28⟩ := hM28
                          have hv28 := hcc28 0 _ rfl
                          simp only [show ((Kd.slice 3 (Kd.int .i64))).sz = 1 from rfl, Nat.mul_one, Nat.add_zero, Int.toNat_natCast] at hv28
                          obtain rfl : Value.slice B28 n d28 = ve28 := Option.some.inj (hx28.symm.trans hv28)
                          rw [Int.toNat_natCast, mk_getN _ ci] at hR28
                          clear hv28 hcc28 hcl28
                          rw [part_row T XA (fun z_ => absurd z_.1 (Nat.lt_irrefl _))] at hR28
                          have hR28 := Kd.R_drew hR28
                          have hH28 := Kd.H_drew hH28
                          obtain ⟨Bc28, dc28, hlc28, hxc28, hC28⟩ := H_tell hH28 c (by rw [mk_length]; omega) (by omega)
                          rw [mk_getN _ cc, part_row T XA (fun z_ => z_.2 rfl)] at hlc28 hxc28 hC28
                          have ot28 := Kd.S_drew HS4.out
                          have hb28 := below_drew1 HBW.out
                          refine start_ (n := 10) (S := fun w' => w'.cell? ⟨g5, i0, none⟩ = some (.slice B28 n d28) ∧ w'.cell? ⟨g5, c, none⟩ = some (.slice Bc28 (rowN n (XA c)).length dc28)) (ds := [9]) #[false, false, false, false, false, false, false, false, false, false] (by kernel_rfl) rfl rfl ⟨hx28, hxc28⟩ (fun hHeld => ?_)
                          generalize wr.drew = v28 at hR28 hH28 hxc28 hC28 ot28 hb28 hHeld ⊢
                          refine pure_ (i := 0) (N := some 133) (v := ?_) (a' := ?_) #[true, false, false, false, false, false, false, false, false, false] rfl rfl (by kernel_rfl) (fun _ _ _ h => h) (Or.inl ⟨by rfl, ?_⟩) ?_ ?_
                          rotate_left
                          · intro w'
                            go_simp
                            with_reducible rfl
                          rotate_left
                          · simp only [Act.put, List.setIfInBounds_toArray, List.set_cons_zero, List.set_cons_succ, i64_w, i32_w]
                            rfl
                          refine pure_ (i := 1) (N := some 134) (v := ?_) (a' := ?_) #[true, true, false, false, false, false, false, false, false, false] rfl rfl (by kernel_rfl) (fun _ _ _ h => h) (Or.inl ⟨by rfl, ?_⟩) ?_ ?_
                          rotate_left
                          · intro w'
                            go_simp
                            with_reducible rfl
                          rotate_left
                          · simp only [Act.put, List.setIfInBounds_toArray, List.set_cons_zero, List.set_cons_succ, i64_w, i32_w]
                            rfl
                          refine pure_ (i := 2) (N := some 135) (v := ?_) (a' := ?_) #[true, true, true, false, false, false, false, false, false, false] rfl rfl (by kernel_rfl) (fun _ _ _ h => h) (Or.inl ⟨by rfl, ?_⟩) ?_ ?_
                          rotate_left
                          · intro w'
                            go_simp
                            with_reducible rfl
                          rotate_left
                          · simp only [Act.put, List.setIfInBounds_toArray, List.set_cons_zero, List.set_cons_succ, i64_w, i32_w]
                            rfl
                          refine pure_ (i := 4) (N := some 137) (v := ?_) (a' := ?_) #[true, true, true, false, true, false, false, false, false, false] rfl rfl (by kernel_rfl) (fun _ _ _ h => h) (Or.inl ⟨by rfl, ?_⟩) ?_ ?_
                          rotate_left
                          · intro w'
                            go_simp
                            with_reducible rfl
                          rotate_left
                          · simp only [Act.put, List.setIfInBounds_toArray, List.set_cons_zero, List.set_cons_succ, i64_w, i32_w]
                            rfl
                          refine pure_ (i := 5) (N := some 138) (v := ?_) (a' := ?_) #[true, true, true, false, true, true, false, false, false, false] rfl rfl (by kernel_rfl) (fun _ _ _ h => h) (Or.inl ⟨by rfl, ?_⟩) ?_ ?_
                          rotate_left
                          · intro w'
                            go_simp
                            with_reducible rfl
                          rotate_left
                          · simp only [Act.put, List.setIfInBounds_toArray, List.set_cons_zero, List.set_cons_succ, i64_w, i32_w]
                            rfl
                          refine pure_ (i := 6) (N := some 139) (v := ?_) (a' := ?_) #[true, true, true, false, true, true, true, false, false, false] rfl rfl (by kernel_rfl) (fun _ _ _ h => h) (Or.inl ⟨by rfl, ?_⟩) ?_ ?_
                          rotate_left
                          · intro w'
                            go_simp
                            with_reducible rfl
                          rotate_left
                          · simp only [Act.put, List.setIfInBounds_toArray, List.set_cons_zero, List.set_cons_succ, i64_w, i32_w]
                            rfl
                          refine pure_ (i := 8) (N := some 141) (v := ?_) (a' := ?_) #[true, true, true, false, true, true, true, false, true, false] rfl rfl (by kernel_rfl) (fun _ _ _ h => h) (Or.inl ⟨by rfl, ?_⟩) ?_ ?_
                          rotate_left
                          · intro w'
                            go_simp
                            with_reducible rfl
                          rotate_left
                          · simp only [Act.put, List.setIfInBounds_toArray, List.set_cons_zero, List.set_cons_succ, i64_w, i32_w]
                            rfl
                          refine take_ (i := 3) (N := some 136) (v := ?_) (a' := ?_) #[true, true, true, true, true, true, true, false, true, false] rfl rfl (by kernel_rfl) (fun _ _ _ h => h) (Or.inl ⟨by rfl, ?_⟩) hHeld ?_ ?_
                          rotate_left
                          · rintro w' ⟨s0, s1⟩
                            go_simp
                            with_reducible rfl
                          rotate_left
                          · simp only [Act.put, List.setIfInBounds_toArray, List.set_cons_zero, List.set_cons_succ, i64_w, i32_w]
                            rfl
                          refine take_ (i := 7) (N := some 140) (v := ?_) (a' := ?_) #[true, true, true, true, true, true, true, true, true, false] rfl rfl (by kernel_rfl) (fun _ _ _ h => h) (Or.inl ⟨by rfl, ?_⟩) hHeld ?_ ?_
                          rotate_left
                          · rintro w' ⟨s0, s1⟩
                            go_simp
                            with_reducible rfl
                          rotate_left
                          · simp only [Act.put, List.setIfInBounds_toArray, List.set_cons_zero, List.set_cons_succ, i64_w, i32_w]
                            rfl
                          refine last_ (i := 9) (N := some 142) #[true, true, true, true, true, true, true, true, true, true] rfl rfl (by kernel_rfl) (by decide) (fun K hK => ?_)
                          refine goes_ Try.func57 (by kernel_rfl) rfl #[.slice B28 n d28, .slice Bc28 (rowN n (XA c)).length dc28, .int .i64 t] (by rfl) rfl rfl (by simp only [List.map_toArray, List.map_cons, List.map_nil]; rfl) ?_
                          with_reducible refine (impl_addTimes.calls k6 ok28 (.slice B28 n d28) (rowN n (XA i0)) Bc28 dc28 (rowN n (XA c)) t (rowN n (fun j => XA i0 j ^^^ Gf.mul (T i0) (XA c j))) w v28 hb28 hR28 hC28 hlc28 e6).mono ?_
                          rintro e W28 ⟨rfl, hy0, hbn28, hkp⟩
                          refine ⟨_, rfl, ?_⟩
                          have n28_ := Kd.H_back (Kd.H_kept (by (with_reducible repeat (first | apply Kd.H_alloc | apply Kd.H_drewN | apply Kd.H_drew)); exact hH28) hkp (fun k_ _ hn => hn)) (Kd.M_row (Kd.R_reok (ok := ok28) rfl hy0 (fun k_ e_ => hR28.1 k_ e_))) (fun _ h_ => h_)
                          have o28_ := Kd.S_kept (by (with_reducible repeat (first | apply Kd.S_alloc | apply Kd.S_drewN | apply Kd.S_drew)); exact ot28) hkp (fun k_ hk_ hs_ => absurd hk_ (Nat.not_lt.mpr (ho28 k_ hs_).1))
                          rw [Int.toNat_natCast, part_next T XA ci ic] at n28_
                          clear hy0 hkp hH28
                          refine hK.out _ _ ?_
                          clear hK K
                          refine norm_ (a' := ?_) ?_ ?_
                          rotate_left
                          · show Act.put _ (some 142) _ = _
                            simp only [Act.put, List.setIfInBounds_toArray, List.set_cons_zero, List.set_cons_succ, i64_w, i32_w]
                            rfl
                          refine done_ (by kernel_rfl) ?_
                          clear hxc28 hC28 ot28 hb28 hR28 hx28 hHeld hlc28
                          go_wp2
                          obtain ⟨ad29, B29, d29, e29, hx29, hl29, hi29⟩ := at_L3 (Kd.S_reads' o28_).2.2 (i0 : Int) (by omega) (by rw [mk_length]; omega)
                          obtain rfl : (⟨g4, 0, none⟩ : Addr) = ad29 := (by injection e29)
                          rw [rdL_mk _ ci, rowN_length, Int.toNat_natCast, add_plain] at hx29
                          rw [rdL_mk _ ci, rowN_length] at hi29
                          rw [rdL_mk _ ci, rowN_length] at hl29
                          obtain ⟨ok29, ce29, hcl29, hM29, hcc29, ho29, hH29⟩ := Kd.S_lend o28_ [] (i0 : Int) (by omega) (by omega)
                          obtain ⟨ve29, rfl, hR29⟩ := hM29
                          have hv29 := hcc29 0 _ rfl
                          simp only [show ((Kd.slice 3 (Kd.int .i64))).sz = 1 from rfl, Nat.mul_one, Nat.add_zero, Int.toNat_natCast] at hv29
                          obtain rfl : Value.slice B29 n d29 = ve29 := Option.some.inj (hx29.symm.trans hv29)
                          rw [Int.toNat_natCast, mk_getN _ ci] at hR29
                          clear hv29 hcc29 hcl29
                          rw [part_row T XB (fun z_ => absurd z_.1 (Nat.lt_irrefl _))] at hR29
                          have hR29 := Kd.R_drew hR29
                          have hH29 := Kd.H_drew hH29
                          obtain ⟨Bc29, dc29, hlc29, hxc29, hC29⟩ := H_tell hH29 c (by rw [mk_length]; omega) (by omega)
                          rw [mk_getN _ cc, part_row T XB (fun z_ => z_.2 rfl)] at hlc29 hxc29 hC29
                          have ot29 := Kd.S_drew n28_
                          have hb29 := below_drew1 hbn28
                          refine start_ (n := 10) (S := fun w' => w'.cell? ⟨g4, i0, none⟩ = some (.slice B29 n d29) ∧ w'.cell? ⟨g4, c, none⟩ = some (.slice Bc29 (rowN n (XB c)).length dc29)) (ds := [9]) #[false, false, false, false, false, false, false, false, false, false] (by kernel_rfl) rfl rfl ⟨hx29, hxc29⟩ (fun hHeld => ?_)
                          generalize W28.drew = v29 at hR29 hH29 hxc29 hC29 ot29 hb29 hHeld ⊢
                          refine pure_ (i := 0) (N := some 143) (v := ?_) (a' := ?_) #[true, false, false, false, false, false, false, false, false, false] rfl rfl (by kernel_rfl) (fun _ _ _ h => h) (Or.inl ⟨by rfl, ?_⟩) ?_ ?_
                          rotate_left
                          · intro w'
                            go_simp
                            with_reducible rfl
                          rotate_left
                          · simp only [Act.put, List.setIfInBounds_toArray, List.set_cons_zero, List.set_cons_succ, i64_w, i32_w]
                            rfl
                          refine pure_ (i := 1) (N := some 144) (v := ?_) (a' := ?_) #[true, true, false, false, false, false, false, false, false, false] rfl rfl (by kernel_rfl) (fun _ _ _ h => h) (Or.inl ⟨by rfl, ?_⟩) ?_ ?_
                          rotate_left
                          · intro w'
                            go_simp
                            with_reducible rfl
                          rotate_left
                          · simp only [Act.put, List.setIfInBounds_toArray, List.set_cons_zero, List.set_cons_succ, i64_w, i32_w]
                            rfl
                          refine pure_ (i := 2) (N := some 145) (v := ?_) (a' := ?_) #[true, true, true, false, false, false, false, false, false, false] rfl rfl (by kernel_rfl) (fun _ _ _ h => h) (Or.inl ⟨by rfl, ?_⟩) ?_ ?_
                          rotate_left
                          · intro w'
                            go_simp
                            with_reducible rfl
                          rotate_left
                          · simp only [Act.put, List.setIfInBounds_toArray, List.set_cons_zero, List.set_cons_succ, i64_w, i32_w]
                            rfl
                          refine pure_ (i := 4) (N := some 147) (v := ?_) (a' := ?_) #[true, true, true, false, true, false, false, false, false, false] rfl rfl (by kernel_rfl) (fun _ _ _ h => h) (Or.inl ⟨by rfl, ?_⟩) ?_ ?_
                          rotate_left
                          · intro w'
                            go_simp
                            with_reducible rfl
                          rotate_left
                          · simp only [Act.put, List.setIfInBounds_toArray, List.set_cons_zero, List.set_cons_succ, i64_w, i32_w]
                            rfl
                          refine pure_ (i := 5) (N := some 148) (v := ?_) (a' := ?_) #[true, true, true, false, true, true, false, false, false, false] rfl rfl (by kernel_rfl) (fun _ _ _ h => h) (Or.inl ⟨by rfl, ?_⟩) ?_ ?_
                          rotate_left
                          · intro w'
                            go_simp
                            with_reducible rfl
                          rotate_left
                          · simp only [Act.put, List.setIfInBounds_toArray, List.set_cons_zero, List.set_cons_succ, i64_w, i32_w]
                            rfl
                          refine pure_ (i := 6) (N := some 149) (v := ?_) (a' := ?_) #[true, true, true, false, true, true, true, false, false, false] rfl rfl (by kernel_rfl) (fun _ _ _ h => h) (Or.inl ⟨by rfl, ?_⟩) ?_ ?_
                          rotate_left
                          · intro w'
                            go_simp
                            with_reducible rfl
                          rotate_left
                          · simp only [Act.put, List.setIfInBounds_toArray, List.set_cons_zero, List.set_cons_succ, i64_w, i32_w]
                            rfl
                          refine pure_ (i := 8) (N := some 151) (v := ?_) (a' := ?_) #[true, true, true, false, true, true, true, false, true, false] rfl rfl (by kernel_rfl) (fun _ _ _ h => h) (Or.inl ⟨by rfl, ?_⟩) ?_ ?_
                          rotate_left
                          · intro w'
                            go_simp
                            with_reducible rfl
                          rotate_left
                          · simp only [Act.put, List.setIfInBounds_toArray, List.set_cons_zero, List.set_cons_succ, i64_w, i32_w]
                            rfl
                          refine take_ (i := 3) (N := some 146) (v := ?_) (a' := ?_) #[true, true, true, true, true, true, true, false, true, false] rfl rfl (by kernel_rfl) (fun _ _ _ h => h) (Or.inl ⟨by rfl, ?_⟩) hHeld ?_ ?_
                          rotate_left
                          · rintro w' ⟨s0, s1⟩
                            go_simp
                            with_reducible rfl
                          rotate_left
                          · simp only [Act.put, List.setIfInBounds_toArray, List.set_cons_zero, List.set_cons_succ, i64_w, i32_w]
                            rfl
                          refine take_ (i := 7) (N := some 150) (v := ?_) (a' := ?_) #[true, true, true, true, true, true, true, true, true, false] rfl rfl (by kernel_rfl) (fun _ _ _ h => h) (Or.inl ⟨by rfl, ?_⟩) hHeld ?_ ?_
                          rotate_left
                          · rintro w' ⟨s0, s1⟩
                            go_simp
                            with_reducible rfl
                          rotate_left
                          · simp only [Act.put, List.setIfInBounds_toArray, List.set_cons_zero, List.set_cons_succ, i64_w, i32_w]
                            rfl
                          refine last_ (i := 9) (N := some 152) #[true, true, true, true, true, true, true, true, true, true] rfl rfl (by kernel_rfl) (by decide) (fun K hK => ?_)
                          refine goes_ Try.func57 (by kernel_rfl) rfl #[.slice B29 n d29, .slice Bc29 (rowN n (XB c)).length dc29, .int .i64 t] (by rfl) rfl rfl (by simp only [List.map_toArray, List.map_cons, List.map_nil]; rfl) ?_
                          with_reducible refine (impl_addTimes.calls k7 ok29 (.slice B29 n d29) (rowN n (XB i0)) Bc29 dc29 (rowN n (XB c)) t (rowN n (fun j => XB i0 j ^^^ Gf.mul (T i0) (XB c j))) w v29 hb29 hR29 hC29 hlc29 e7).mono ?_
                          rintro e W29 ⟨rfl, hy0, hbn29, hkp⟩
                          refine ⟨_, rfl, ?_⟩
                          have n29_ := Kd.H_back (Kd.H_kept (by (with_reducible repeat (first | apply Kd.H_alloc | apply Kd.H_drewN | apply Kd.H_drew)); exact hH29) hkp (fun k_ _ hn => hn)) (Kd.M_row (Kd.R_reok (ok := ok29) rfl hy0 (fun k_ e_ => hR29.1 k_ e_))) (fun _ h_ => h_)
                          have o29_ := Kd.S_kept (by (with_reducible repeat (first | apply Kd.S_alloc | apply Kd.S_drewN | apply Kd.S_drew)); exact ot29) hkp (fun k_ hk_ hs_ => absurd (ho29 k_ hs_).1 (Nat.not_lt.mpr hk_))
                          rw [Int.toNat_natCast, part_next T XB ci ic] at n29_
                          clear hy0 hkp hH29
                          refine hK.out _ _ ?_
                          clear hK K
                          refine norm_ (a' := ?_) ?_ ?_
                          rotate_left
                          · show Act.put _ (some 152) _ = _
                            simp only [Act.put, List.setIfInBounds_toArray, List.set_cons_zero, List.set_cons_succ, i64_w, i32_w]
                            rfl
                          refine done_ (by kernel_rfl) ?_
                          clear hxc29 hC29 ot29 hb29 hR29 hx29 hHeld hlc29
                          go_wp2
                          go_roundg (n - (i0 + 1))
                          case measure => have := HKI.out; omega
                          case rel => exact ⟨i0 + 1, by first | rfl | rw [wsucc (by omega)], ⟨by omega⟩, ⟨rfl⟩, ⟨by (with_reducible repeat (first | apply Kd.S_alloc | apply Kd.S_drewN | apply Kd.S_drew)); exact o29_⟩, ⟨by (with_reducible repeat (first | apply Kd.S_alloc | apply Kd.S_drewN | apply Kd.S_drew)); exact n29_⟩, ⟨by repeat (first | exact hbn29 | apply below_alloc | apply pw_below_drewN | apply below_drew1)⟩⟩
                    · have cib : decide ((i0 : Int) < (n : Int)) = false := decide_eq_false (by omega)
                      have cibn : (i0 < n) = False := eq_false (by omega)
                      have cibi : ((i0 : Int) < (n : Int)) = False := eq_false (by omega)
                      have ei : i0 = n := by have := HI0.out; omega
                      have HS5 := Aside0.mk (show Kd.S (Kd.slice 3 (Kd.int .i64)) 32 wr w.heap.size (fun k_ => N1.heap.size ≤ k_) (.slice (some ⟨g5, 0, none⟩) n c5) (mk n n (gjF p c (gjV p c A) (gjT p c A) A)) by have h_ := HS5.out; rw [ei, part_all, HXA.out, HTT.out] at h_; exact h_)
                      have HS4 := Aside0.mk (show Kd.S (Kd.slice 3 (Kd.int .i64)) 32 wr w.heap.size (fun k_ => k_ < N1.heap.size) (.slice (some ⟨g4, 0, none⟩) n c1) (mk n n (gjF p c (gjV p c A) (gjT p c A) B)) by have h_ := HS4.out; rw [ei, part_all, HXB.out, HTT.out] at h_; exact h_)
                      have HR2 := Aside0.mk (show gjRes n (gjGo n (n - (c + 1)) (c + 1) (gjF p c (gjV p c A) (gjT p c A) A) (gjF p c (gjV p c A) (gjT p c A) B)) = (r1, r2) by have h_ := HR.out; rw [show n - c = n - (c + 1) + 1 by omega, gjGo, HFP.out] at h_; exact h_)
                      have HFA := Aside0.mk (show bytesM n (gjF p c (gjV p c A) (gjT p c A) A) by have h_ := (elim_op (T := T) cc (fun i_ hi_ => by rw [HT.out i_]; exact SA.out i_ hi_ c cc)).bytes _ SA.out; rw [HXA.out, HTT.out] at h_; exact h_)
                      have HFB := Aside0.mk (show bytesM n (gjF p c (gjV p c A) (gjT p c A) B) by have h_ := (elim_op (T := T) cc (fun i_ hi_ => by rw [HT.out i_]; exact SA.out i_ hi_ c cc)).bytes _ SB.out; rw [HXB.out, HTT.out] at h_; exact h_)
                      clear ei
                      go_wp2
                      go_roundg (n - (c + 1))
                      case measure => have := HKC.out; omega
                      case rel => exact ⟨c + 1, _, _, by first | rfl | rw [wsucc (by omega)], ⟨by omega⟩, ⟨rfl⟩, HFA, HFB, HR2, ⟨by (with_reducible repeat (first | apply Kd.S_alloc | apply Kd.S_drewN | apply Kd.S_drew)); exact HS5.out⟩, ⟨by (with_reducible repeat (first | apply Kd.S_alloc | apply Kd.S_drewN | apply Kd.S_drew)); exact HS4.out⟩, ⟨by repeat (first | exact HBW.out | apply below_alloc | apply pw_below_drewN | apply below_drew1)⟩⟩
              · have cpb : decide ((p : Int) < (n : Int)) = false := decide_eq_false (by omega)
                have cpbn : (p < n) = False := eq_false (by omega)
                have cpbi : ((p : Int) < (n : Int)) = False := eq_false (by omega)
                have ep : p = n := by have := HP2.out; omega
                have HFN := Aside0.mk (show findP A c (n - c) c = none by rw [← HF.out, ep, Nat.sub_self]; rfl)
                have hR2 := HR.out
                rw [show n - c = n - c - 1 + 1 by omega, gjGo] at hR2
                rw [HFN.out] at hR2
                obtain ⟨rfl, rfl⟩ := Prod.mk.inj hR2
                have HR3 := HR.out
                clear hR2 HR HR3
                subst ep
                go_wp2
                go_ret2
                exact ⟨_, rfl, Kd.S_nil _ _ _ _ _, by repeat (first | exact HBW.out | apply below_alloc | apply pw_below_drewN | apply below_drew1)⟩
          · have ccb : decide ((c : Int) < (n : Int)) = false := decide_eq_false (by omega)
            have ccbn : (c < n) = False := eq_false (by omega)
            have ccbi : ((c : Int) < (n : Int)) = False := eq_false (by omega)
            have ec : c = n := by have := HC.out; omega
            have hR2 := HR.out
            rw [ec, Nat.sub_self, gjGo] at hR2
            obtain ⟨rfl, rfl⟩ := Prod.mk.inj hR2
            go_wp2
            go_ret2
            exact ⟨_, rfl, by (with_reducible repeat (first | apply Kd.S_alloc | apply Kd.S_drewN | apply Kd.S_drew)); exact Kd.S_mono HS4.out (fun _ _ => trivial), by repeat (first | exact HBW.out | apply below_alloc | apply pw_below_drewN | apply below_drew1)⟩


end Go.Proofs.Ytcpcphdhaboekaa.XFnCodes
