/- What a product of drawn matrices makes of units is what one makes of what the other one makes; what an inverse makes of it is the units again. -/
import Derived.Test.YthjdnjmlamfdbaaXFnAppliesx8
set_option linter.unusedVariables false
set_option linter.unusedSimpArgs false
namespace Go.Proofs.Ythjdnjmlamfdbaa.Pure
open Go.RowKit Go.Proofs.Ythjdnjmlamfdbaa.XFnApplies Go.Proofs.YthjdnjmlamfdbaaW.PrintWords Go.Proofs.YthjdnjmlamfdbaaW.PrintLast

/-! ### small words -/
theorem w64 {x : Int} (h0 : -9223372036854775808 ≤ x) (h1 : x ≤ 9223372036854775807) : wrap64 x = x := by
 unfold wrap64
 omega
theorem wf64 {x : Int} (h : (Lit.int .i64 x).wf = true) : -9223372036854775808 ≤ x ∧ x ≤ 9223372036854775807 := by
 simp [Lit.wf, IntKind.min, IntKind.max, IntKind.signed, IntKind.bits] at h
 omega
theorem wfu32 {x : Int} (h : (Lit.int .u32 x).wf = true) : 0 ≤ x ∧ x ≤ 4294967295 := by
 simp [Lit.wf, IntKind.min, IntKind.max, IntKind.signed, IntKind.bits] at h
 omega
theorem wfu8 {x : Int} (h : (Lit.int .u8 x).wf = true) : 0 ≤ x ∧ x ≤ 255 := by
 simp [Lit.wf, IntKind.min, IntKind.max, IntKind.signed, IntKind.bits] at h
 omega
theorem wsucc {n : Nat} (h : n ≤ 4611686018427387904) : wrap64 ((n : Int) + 1) = ((n + 1 : Nat) : Int) := by
 rw [w64 (by omega) (by omega)]
 rfl
theorem wadd {a b : Nat} (h : a + b ≤ 4611686018427387904) : wrap64 ((a : Int) + (b : Int)) = ((a + b : Nat) : Int) := by
 rw [w64 (by omega) (by omega)]
 rfl
theorem wnat {n : Nat} (h : n ≤ 4611686018427387904) : wrap64 (n : Int) = (n : Int) := w64 (by omega) (by omega)
theorem Ev.some_bind {α β : Type} {a : Option α} {x : α} (h : a = some x) {f : Nat → α → Option β} {r : β} (k : Ev (fun n => f n x) r) : Ev (fun n => a.bind (f n)) r := by
 subst h
 exact k
theorem Ev.pos {α : Type} {p : Prop} [Decidable p] (h : p) {f g : Nat → Option α} {r : α} (k : Ev f r) : Ev (fun n => if p then f n else g n) r :=
 Ev.congr (fun _ => if_pos h) k
theorem Ev.neg {α : Type} {p : Prop} [Decidable p] (h : ¬ p) {f g : Nat → Option α} {r : α} (k : Ev g r) : Ev (fun n => if p then f n else g n) r :=
 Ev.congr (fun _ => if_neg h) k
theorem tmod_nat {x : Int} (h0 : 0 ≤ x) (N : Nat) : ∃ c : Nat, Int.tmod x ((N + 1 : Nat) : Int) = (c : Int) ∧ c ≤ N := by
 obtain ⟨c, hc⟩ := Int.eq_ofNat_of_zero_le (Int.tmod_nonneg ((N + 1 : Nat) : Int) h0)
 have hlt := Int.tmod_lt_of_pos x (show (0 : Int) < ((N + 1 : Nat) : Int) by omega)
 rw [hc] at hlt
 exact ⟨c, hc, by omega⟩

theorem strOfNums_size (xs : List Int) : (strOfNums xs).size = xs.length := by simp [strOfNums, ByteArray.size]
theorem str_ext {a b : ByteArray} (h : a.data.toList = b.data.toList) : a = b := by
 apply ByteArray.ext
 exact Array.toList_inj.1 h
theorem str_app (a b : ByteArray) : (a ++ b).data.toList = a.data.toList ++ b.data.toList := by simp [ByteArray.data_append]
theorem str_cut (s : ByteArray) (a b : Nat) : (s.extract a b).data.toList = (s.data.toList.drop a).take (b - a) := by
 obtain ⟨⟨l⟩⟩ := s
 simp [ByteArray.data_extract, List.extract_eq_take_drop]
theorem str_len (s : ByteArray) : s.data.toList.length = s.size := rfl
theorem str_toList {a b : ByteArray} : a.toList = b.toList ↔ a = b := by
 rw [ByteArray.toList_eq, ByteArray.toList_eq]
 exact ⟨str_ext, fun h => by rw [h]⟩
theorem str_split (s : ByteArray) (n : Nat) (h : n ≤ s.size) : s.extract 0 n ++ s.extract n s.size = s := by
 apply str_ext
 rw [str_app, str_cut, str_cut, List.drop_zero, Nat.sub_zero, List.take_of_length_le (l := s.data.toList.drop n) (by simp [str_len]), List.take_append_drop]
theorem str_app_inj {a b c : ByteArray} (h : a ++ b = a ++ c) : b = c := by
 have := congrArg (fun s : ByteArray => s.data.toList) h
 simp only [str_app] at this
 exact str_ext (List.append_cancel_left this)
theorem cut_size (s : ByteArray) {n : Nat} (h : n ≤ s.size) : (s.extract 0 n).size = n := by
 rw [ByteArray.size_extract]
 omega

theorem spec_l01In_eq (a l h : Int) : spec_l01In.f a l h = some (decide (l ≤ a ∧ a ≤ h)) := by
 unfold spec_l01In.f
 by_cases h1 : l ≤ a
 ·rw [if_pos h1]; simp [h1]
 ·rw [if_neg h1]; simp [h1]

theorem impl_within_eq (a l h : Int) : impl_within.f a l h = some (decide (l ≤ a ∧ a ≤ h)) := by
 unfold impl_within.f
 by_cases h1 : l ≤ a
 ·rw [if_pos h1]; simp [h1]
 ·rw [if_neg h1]; simp [h1]

/-! ### lists of lists of whole numbers: read -/
theorem rdI_nat {l : List Int} {i : Nat} (h : i < l.length) : rd l (i : Int) = l[i] := by
 unfold rd
 rw [Int.toNat_natCast, List.getD_eq_getElem?_getD, List.getElem?_eq_getElem h]
 rfl
theorem rdL_nat {l : List (List Int)} {i : Nat} (h : i < l.length) : rd_L2 l (i : Int) = l[i] := by
 unfold rd_L2
 rw [Int.toNat_natCast, List.getD_eq_getElem?_getD, List.getElem?_eq_getElem h]
 rfl
theorem rdI_mid (A : List Int) (x : Int) (B : List Int) : rd (A ++ x :: B) (A.length : Int) = x := by simp [rd]
theorem rdL_mid (A : List (List Int)) (x : List Int) (B : List (List Int)) : rd_L2 (A ++ x :: B) (A.length : Int) = x := by simp [rd_L2]
theorem set_midI {α : Type} (A : List α) (x v : α) (B : List α) : (A ++ x :: B).set A.length v = A ++ v :: B := by simp

/-! ### what a right matrix is -/
def inB (x : Int) : Bool := decide (0 ≤ x ∧ x ≤ 255)
def okR (n : Nat) (r : List Int) : Bool := decide (r.length = n) && r.all inB
def in18 (n : Nat) : Bool := decide (1 ≤ n ∧ n ≤ 8)
def okM (m : List (List Int)) : Bool := in18 m.length && in18 (m.headD []).length && m.all (okR (m.headD []).length)
theorem in18_int (n : Nat) : decide ((1 : Int) ≤ (n : Int) ∧ (n : Int) ≤ 8) = in18 n := by
 unfold in18
 by_cases h : 1 ≤ n ∧ n ≤ 8
 ·rw [decide_eq_true h, decide_eq_true (by omega)]
 ·rw [decide_eq_false h, decide_eq_false (by omega)]
theorem rdL_zero (m : List (List Int)) : rd_L2 m 0 = m.headD [] := by
 cases m <;> rfl

/-! ### spec.MatrixOk -/
theorem spec_MatrixOk_ev (m : List (List Int)) (hl : m.length ≤ 4611686018427387904) (hr : ∀ r ∈ m, r.length ≤ 4611686018427387904) : Ev (fun k => spec_MatrixOk.f k m) (okM m) := by
 have key : ∀ (B A : List (List Int)), m = A ++ B → Ev (fun k => spec_MatrixOk.l0 k m (A.length : Int)) (B.all (fun r => okR (m.headD []).length r && in18 (m.headD []).length) && in18 m.length) := by
  intro B
  induction B with
  | nil =>
   intro A h
   refine Ev.step (f := fun _ => some (in18 m.length)) (fun k => ?_) (Ev.now _)
   simp only [spec_MatrixOk.l0]
   rw [if_neg (by rw [h]; simp), spec_l01In_eq, in18_int]
   rfl
  | cons x B ih =>
   intro A h
   have e : m.length = A.length + (B.length + 1) := by rw [h]; simp
   have r : rd_L2 m (A.length : Int) = x := by rw [h]; exact rdL_mid A x B
   have hx : x.length ≤ 4611686018427387904 := hr x (by rw [h]; simp)
   have z := ih (A ++ [x]) (by simp [h])
   have inner : ∀ (D C : List Int), x = C ++ D → Ev (fun k => spec_MatrixOk.l1 k m (A.length : Int) (C.length : Int)) (D.all inB && (B.all (fun r => okR (m.headD []).length r && in18 (m.headD []).length) && in18 m.length)) := by
    intro D
    induction D with
    | nil =>
     intro C hc
     refine Ev.step (fun k => ?_) z
     simp only [spec_MatrixOk.l1]
     rw [if_pos (by omega), if_pos (by omega), r, if_neg (by rw [hc]; simp), wsucc (by omega)]
     simp
    | cons y D ihd =>
     intro C hc
     have ex : x.length = C.length + (D.length + 1) := by rw [hc]; simp
     have ry : rd x (C.length : Int) = y := by rw [hc]; exact rdI_mid C y D
     have zd := ihd (C ++ [y]) (by simp [hc])
     by_cases hy : inB y = true
     ·rw [List.all_cons, hy, Bool.true_and]
      refine Ev.step (fun k => ?_) zd
      simp only [spec_MatrixOk.l1]
      rw [if_pos (by omega), if_pos (by omega), r, if_pos (by omega), if_pos (by omega), ry, spec_l01In_eq, Option.bind_some, if_pos (by exact hy), wsucc (by omega)]
      simp
     ·rw [List.all_cons, Bool.eq_false_iff.mpr hy, Bool.false_and, Bool.false_and]
      refine Ev.step (f := fun _ => some false) (fun k => ?_) (Ev.now _)
      simp only [spec_MatrixOk.l1]
      rw [if_pos (by omega), if_pos (by omega), r, if_pos (by omega), if_pos (by omega), ry, spec_l01In_eq, Option.bind_some, if_neg (by exact hy)]
   have j : ∀ b : Bool, Ev (fun k => spec_MatrixOk.j1 k m (A.length : Int) b) (!b && (x.all inB && (B.all (fun r => okR (m.headD []).length r && in18 (m.headD []).length) && in18 m.length))) := by
    intro b
    cases b with
    | true => exact Ev.step (f := fun _ => some false) (fun k => by simp only [spec_MatrixOk.j1, if_true]) (Ev.now _)
    | false =>
     have y := inner x [] rfl
     rw [Bool.not_false, Bool.true_and]
     refine Ev.step (fun k => ?_) y
     simp only [spec_MatrixOk.j1, Bool.false_eq_true, if_false]
     rfl
   rw [List.all_cons]
   by_cases hn : x.length = (m.headD []).length
   ·refine Ev.step (f := fun k => spec_MatrixOk.j1 k m (A.length : Int) (!in18 x.length)) (fun k => ?_) ?_
    ·simp only [spec_MatrixOk.l0]
     rw [if_pos (by omega), if_pos (by omega), if_pos (by omega), r, rdL_zero, if_pos (by omega), spec_l01In_eq, Option.bind_some, in18_int]
    ·have jj := j (!in18 x.length)
     have eqv : (okR (m.headD []).length x && in18 (m.headD []).length && B.all (fun r => okR (m.headD []).length r && in18 (m.headD []).length) && in18 m.length) = (!(!in18 x.length) && (x.all inB && (B.all (fun r => okR (m.headD []).length r && in18 (m.headD []).length) && in18 m.length))) := by
      unfold okR
      rw [hn, decide_eq_true rfl]
      cases x.all inB <;> cases in18 (m.headD []).length <;> rfl
     rw [eqv]
     exact jj
   ·refine Ev.step (f := fun k => spec_MatrixOk.j1 k m (A.length : Int) true) (fun k => ?_) ?_
    ·simp only [spec_MatrixOk.l0]
     rw [if_pos (by omega), if_pos (by omega), if_pos (by omega), r, rdL_zero, if_neg (by omega)]
    ·have jj := j true
     have eqv : (okR (m.headD []).length x && in18 (m.headD []).length && B.all (fun r => okR (m.headD []).length r && in18 (m.headD []).length) && in18 m.length) = false := by
      unfold okR
      rw [decide_eq_false hn]
      rfl
     rw [eqv]
     exact jj
 have z := key m [] rfl
 have e : okM m = (m.all (fun r => okR (m.headD []).length r && in18 (m.headD []).length) && in18 m.length) := by
  cases m with
  | nil => rfl
  | cons x B =>
   unfold okM
   cases hx : in18 ((x :: B).headD []).length with
   | true =>
    simp only [Bool.and_true]
    exact Bool.and_comm _ _
   | false => simp
 rw [e]
 exact z

/-! ### impl.MatrixOk -/
theorem closure_eq (x : Int) : impl_MatrixOk_1.f x = some (!inB x) := by
 unfold impl_MatrixOk_1.f
 rw [impl_within_eq]
 rfl
theorem idx_ev (l : List Int) (hl : l.length ≤ 4611686018427387904) : ∃ r : Int, Ev (fun k => slices_IndexFunc_int_int.f k l) r ∧ decide (r ≥ 0) = !(l.all inB) := by
 have key : ∀ (B A : List Int), l = A ++ B → ∃ r : Int, Ev (fun k => slices_IndexFunc_int_int.l0 k l (l.length : Int) (A.length : Int)) r ∧ decide (r ≥ 0) = !(B.all inB) := by
  intro B
  induction B with
  | nil =>
   intro A h
   refine ⟨-1, Ev.step (f := fun _ => some (-1)) (fun k => ?_) (Ev.now _), rfl⟩
   simp only [slices_IndexFunc_int_int.l0]
   rw [if_neg (by rw [h]; simp)]
  | cons x B ih =>
   intro A h
   have e : l.length = A.length + (B.length + 1) := by rw [h]; simp
   have r : rd l (A.length : Int) = x := by rw [h]; exact rdI_mid A x B
   by_cases hx : inB x = true
   ·obtain ⟨q, hq, hq2⟩ := ih (A ++ [x]) (by simp [h])
    refine ⟨q, Ev.step (fun k => ?_) hq, by rw [List.all_cons, hx, Bool.true_and]; exact hq2⟩
    simp only [slices_IndexFunc_int_int.l0]
    rw [if_pos (by omega), if_pos (by omega), if_pos (by omega), r, closure_eq, hx, Option.bind_some, if_neg (by simp), wsucc (by omega)]
    simp
   ·refine ⟨(A.length : Int), Ev.step (f := fun _ => some (A.length : Int)) (fun k => ?_) (Ev.now _), ?_⟩
    ·simp only [slices_IndexFunc_int_int.l0]
     rw [if_pos (by omega), if_pos (by omega), if_pos (by omega), r, closure_eq, Option.bind_some, if_pos (by simp [hx])]
    ·rw [List.all_cons, Bool.eq_false_iff.mpr hx, decide_eq_true (by omega)]
     rfl
 exact key l [] rfl
theorem cont_ev (l : List Int) (hl : l.length ≤ 4611686018427387904) : Ev (fun k => slices_ContainsFunc_int_int.f k l) (!(l.all inB)) := by
 obtain ⟨r, h1, h2⟩ := idx_ev l hl
 unfold slices_ContainsFunc_int_int.f
 refine Ev.bind h1 ?_
 rw [h2]
 exact Ev.now _
theorem impl_MatrixOk_ev (m : List (List Int)) (hl : m.length ≤ 4611686018427387904) (hr : ∀ r ∈ m, r.length ≤ 4611686018427387904) : Ev (fun k => impl_MatrixOk.f k m) (okM m) := by
 have key : ∀ (B A : List (List Int)), m = A ++ B → Ev (fun k => impl_MatrixOk.l0 k m m (m.length : Int) (A.length : Int)) (B.all (okR (m.headD []).length)) := by
  intro B
  induction B with
  | nil =>
   intro A h
   refine Ev.step (f := fun _ => some true) (fun k => ?_) (Ev.now _)
   simp only [impl_MatrixOk.l0]
   rw [if_neg (by rw [h]; simp)]
  | cons x B ih =>
   intro A h
   have e : m.length = A.length + (B.length + 1) := by rw [h]; simp
   have r : rd_L2 m (A.length : Int) = x := by rw [h]; exact rdL_mid A x B
   have hx : x.length ≤ 4611686018427387904 := hr x (by rw [h]; simp)
   have z := ih (A ++ [x]) (by simp [h])
   rw [List.all_cons]
   by_cases hn : x.length = (m.headD []).length
   ·refine Ev.step (f := fun k => (slices_ContainsFunc_int_int.f k x).bind fun t => if t = true then some false else impl_MatrixOk.l0 k m m (m.length : Int) ((A.length + 1 : Nat) : Int)) (fun k => ?_) (Ev.bind (cont_ev x hx) ?_)
    ·simp only [impl_MatrixOk.l0]
     rw [if_pos (by omega), if_pos (by omega), if_pos (by omega), if_pos (by omega), r, rdL_zero, if_pos (by omega), wsucc (by omega)]
    ·have hok : okR (m.headD []).length x = x.all inB := by
      unfold okR
      rw [decide_eq_true hn, Bool.true_and]
     rw [hok]
     cases hb : x.all inB with
     | true =>
      refine Ev.neg (by simp) ?_
      simpa using z
     | false => exact Ev.pos (by rfl) (Ev.now _)
   ·have hok : okR (m.headD []).length x = false := by
     unfold okR
     rw [decide_eq_false hn, Bool.false_and]
    rw [hok, Bool.false_and]
    refine Ev.step (f := fun _ => some false) (fun k => ?_) (Ev.now _)
    simp only [impl_MatrixOk.l0]
    rw [if_pos (by omega), if_pos (by omega), if_pos (by omega), if_pos (by omega), r, rdL_zero, if_neg (by omega)]
 unfold impl_MatrixOk.f okM
 rw [impl_within_eq, in18_int]
 cases h1 : in18 m.length with
 | false =>
  refine Ev.congr (g := fun k => _) (f := fun k => impl_MatrixOk.j0 k m true) (fun k => ?_) ?_
  ·rw [Option.bind_some, if_neg (by simp)]
  ·exact Ev.step (f := fun _ => some false) (fun k => by simp only [impl_MatrixOk.j0, if_true]) (Ev.now _)
 | true =>
  have hp : 1 ≤ m.length := (of_decide_eq_true h1).1
  refine Ev.congr (f := fun k => impl_MatrixOk.j0 k m (!in18 (m.headD []).length)) (fun k => ?_) ?_
  ·rw [Option.bind_some, if_pos rfl, if_pos (by omega), impl_within_eq, rdL_zero, in18_int, Option.bind_some]
  ·cases h2 : in18 (m.headD []).length with
   | false => exact Ev.step (f := fun _ => some false) (fun k => by simp only [impl_MatrixOk.j0, Bool.not_false, if_true]) (Ev.now _)
   | true =>
    refine Ev.step (fun k => ?_) (key m [] rfl)
    simp only [impl_MatrixOk.j0, Bool.not_true, Bool.false_eq_true, if_false]
    rfl

/- Plain law: the field of bytes (polynomials over bits modulo 285), over natural numbers. -/
namespace Gf

/-- One step: times x. -/
def xt (a : Nat) : Nat := if 255 < 2 * a then (2 * a) ^^^ 285 else 2 * a

/-- The product, bit by bit of b. -/
def gm : Nat → Nat → Nat → Nat
 | 0, _, _ => 0
 | n + 1, a, b => (if b % 2 = 1 then a else 0) ^^^ gm n (xt a) (b / 2)

def mul (a b : Nat) : Nat := gm 8 a b

theorem xor_mod2 (a b : Nat) : (a ^^^ b) % 2 = (a % 2 + b % 2) % 2 := by
 have h := Nat.testBit_xor (x := a) (y := b) (i := 0)
 simp only [Nat.testBit_zero] at h
 have hX : (a ^^^ b) % 2 < 2 := Nat.mod_lt _ (by omega)
 have h1 : a % 2 = 0 ∨ a % 2 = 1 := by omega
 have h2 : b % 2 = 0 ∨ b % 2 = 1 := by omega
 generalize (a ^^^ b) % 2 = X at h hX ⊢
 rcases h1 with h1 | h1 <;> rcases h2 with h2 | h2 <;> rw [h1, h2] at h ⊢ <;> simp at h <;> omega

theorem xor_div2 (a b : Nat) : (a ^^^ b) / 2 = (a / 2) ^^^ (b / 2) := Nat.xor_div_two

theorem xor_lt {a b n : Nat} (ha : a < 2 ^ n) (hb : b < 2 ^ n) : a ^^^ b < 2 ^ n := Nat.xor_lt_two_pow ha hb

theorem xt_lt {a : Nat} (h : a < 256) : xt a < 256 := by
 have : ∀ a : Fin 256, xt a.val < 256 := by decide +kernel
 exact this ⟨a, h⟩

theorem two_mul_xor (a b : Nat) : 2 * (a ^^^ b) = (2 * a) ^^^ (2 * b) := by
 have h := Nat.shiftLeft_xor_distrib (a := a) (b := b) (i := 1)
 simp only [Nat.shiftLeft_eq, Nat.pow_one] at h
 rw [Nat.mul_comm 2, Nat.mul_comm 2, Nat.mul_comm 2]
 exact h

theorem top_xor {a b : Nat} (ha : a < 256) (hb : b < 256) : (a ^^^ b) / 128 = (a / 128 + b / 128) % 2 := by
 have h : ((a ^^^ b) >>> 7) = (a >>> 7) ^^^ (b >>> 7) := Nat.shiftRight_xor_distrib
 simp only [Nat.shiftRight_eq_div_pow] at h
 have h1 : a / 2 ^ 7 < 2 := by omega
 have h2 : b / 2 ^ 7 < 2 := by omega
 have h3 := xor_mod2 (a / 2 ^ 7) (b / 2 ^ 7)
 have h4 : (a / 2 ^ 7) ^^^ (b / 2 ^ 7) < 2 ^ 1 := xor_lt (by omega) (by omega)
 omega

theorem xt_eq {a : Nat} (h : a < 256) : xt a = (2 * a) ^^^ (if a / 128 = 1 then 285 else 0) := by
 unfold xt
 by_cases h1 : 255 < 2 * a
 ·rw [if_pos h1, if_pos (by omega)]
 ·rw [if_neg h1, if_neg (by omega), Nat.xor_zero]

theorem xt_xor {a b : Nat} (ha : a < 256) (hb : b < 256) : xt (a ^^^ b) = xt a ^^^ xt b := by
 have hab : a ^^^ b < 256 := xor_lt (n := 8) ha hb
 rw [xt_eq ha, xt_eq hb, xt_eq hab, two_mul_xor, top_xor ha hb]
 have h1 : a / 128 = 0 ∨ a / 128 = 1 := by omega
 have h2 : b / 128 = 0 ∨ b / 128 = 1 := by omega
 rcases h1 with h1 | h1 <;> rcases h2 with h2 | h2 <;> rw [h1, h2] <;> simp
 ·ac_rfl
 ·ac_rfl
 ·rw [show (2 * a ^^^ 285) ^^^ (2 * b ^^^ 285) = (285 ^^^ 285) ^^^ (2 * a ^^^ 2 * b) by ac_rfl, Nat.xor_self, Nat.zero_xor]

theorem gm_lt (n : Nat) : ∀ {a : Nat} (b : Nat), a < 256 → gm n a b < 256 := by
 induction n with
 | zero => intro a b _; simp [gm]
 | succ n ih =>
  intro a b h
  unfold gm
  refine xor_lt (n := 8) ?_ (ih _ (xt_lt h))
  split <;> omega

theorem gm_xor_left (n : Nat) : ∀ {a c : Nat} (b : Nat), a < 256 → c < 256 → gm n (a ^^^ c) b = gm n a b ^^^ gm n c b := by
 induction n with
 | zero => intro a c b _ _; simp [gm]
 | succ n ih =>
  intro a c b ha hc
  simp only [gm]
  rw [xt_xor ha hc, ih _ (xt_lt ha) (xt_lt hc)]
  by_cases h : b % 2 = 1
  ·simp only [if_pos h]; ac_rfl
  ·simp only [if_neg h, Nat.zero_xor]

theorem gm_xor_right (n : Nat) : ∀ (a b c : Nat), gm n a (b ^^^ c) = gm n a b ^^^ gm n a c := by
 induction n with
 | zero => intro a b c; simp [gm]
 | succ n ih =>
  intro a b c
  simp only [gm]
  rw [xor_div2, ih, xor_mod2]
  have h1 : b % 2 = 0 ∨ b % 2 = 1 := by omega
  have h2 : c % 2 = 0 ∨ c % 2 = 1 := by omega
  rcases h1 with h1 | h1 <;> rcases h2 with h2 | h2 <;> rw [h1, h2] <;> simp
  ·rw [← Nat.xor_assoc, Nat.xor_comm a, Nat.xor_assoc]
  ·rw [Nat.xor_assoc]
  ·have : a ^^^ gm n (xt a) (b / 2) ^^^ (a ^^^ gm n (xt a) (c / 2)) = (a ^^^ a) ^^^ (gm n (xt a) (b / 2) ^^^ gm n (xt a) (c / 2)) := by ac_rfl
   rw [this, Nat.xor_self, Nat.zero_xor]

theorem mul_lt {a : Nat} (b : Nat) (h : a < 256) : mul a b < 256 := gm_lt 8 b h
theorem mul_xor_left {a c : Nat} (b : Nat) (ha : a < 256) (hc : c < 256) : mul (a ^^^ c) b = mul a b ^^^ mul c b := gm_xor_left 8 b ha hc
theorem mul_xor_right (a b c : Nat) : mul a (b ^^^ c) = mul a b ^^^ mul a c := gm_xor_right 8 a b c

/-- Two functions that go through sums are one, if they are at the powers of two. -/
theorem add_ext (f g : Nat → Nat) (h0 : f 0 = g 0) (hf : ∀ a b, a < 256 → b < 256 → f (a ^^^ b) = f a ^^^ f b) (hg : ∀ a b, a < 256 → b < 256 → g (a ^^^ b) = g a ^^^ g b)
  (h : ∀ i, i < 8 → f (2 ^ i) = g (2 ^ i)) : ∀ a, a < 256 → f a = g a := by
 have key : ∀ n, n ≤ 8 → ∀ a, a < 2 ^ n → f a = g a := by
  intro n
  induction n with
  | zero =>
   intro _ a ha
   have : a = 0 := by omega
   rw [this, h0]
  | succ n ih =>
   intro hn a ha
   by_cases hlt : a < 2 ^ n
   ·exact ih (by omega) a hlt
   ·have h256 : 2 ^ (n + 1) ≤ 2 ^ 8 := Nat.pow_le_pow_right (by omega) hn
    have hs : 2 ^ (n + 1) = 2 * 2 ^ n := by rw [Nat.pow_succ]; omega
    have hr : a - 2 ^ n < 2 ^ n := by omega
    have he : a = 2 ^ n ^^^ (a - 2 ^ n) := by
     have h1 : 2 ^ n + (a - 2 ^ n) = 2 ^ n ^^^ (a - 2 ^ n) := by
      have := Nat.two_pow_add_eq_or_of_lt (i := n) (b := a - 2 ^ n) hr 1
      have h2 : (2 ^ n ||| (a - 2 ^ n)) = 2 ^ n ^^^ (a - 2 ^ n) := by
       apply Nat.eq_of_testBit_eq
       intro j
       rw [Nat.testBit_or, Nat.testBit_xor, Nat.testBit_two_pow]
       by_cases hj : n = j
       ·subst hj
        rw [Nat.testBit_lt_two_pow hr]
        simp
       ·simp [hj]
      rw [← h2]
      simpa using this
     omega
    rw [he, hf _ _ (by omega) (by omega), hg _ _ (by omega) (by omega), h n (by omega), ih (by omega) _ hr]
 intro a ha
 exact key 8 (Nat.le_refl _) a (by simpa using ha)

theorem mul_zero_right (a : Nat) : mul a 0 = 0 := by
 have : ∀ n a, gm n a 0 = 0 := by
  intro n
  induction n with
  | zero => intro a; rfl
  | succ n ih => intro a; simp [gm, ih]
 exact this 8 a
theorem mul_zero_left (b : Nat) : mul 0 b = 0 := by
 have : ∀ n b, gm n 0 b = 0 := by
  intro n
  induction n with
  | zero => intro b; rfl
  | succ n ih => intro b; simp [gm, xt, ih]
 exact this 8 b

theorem pow2_lt {i : Nat} (h : i < 8) : 2 ^ i < 256 := by
 have : 2 ^ i < 2 ^ 8 := Nat.pow_lt_pow_right (by omega) h
 omega

theorem mul_comm {a b : Nat} (ha : a < 256) (hb : b < 256) : mul a b = mul b a := by
 have base : ∀ i : Fin 8, ∀ j : Fin 8, mul (2 ^ i.val) (2 ^ j.val) = mul (2 ^ j.val) (2 ^ i.val) := by decide +kernel
 have step : ∀ i, i < 8 → ∀ b, b < 256 → mul (2 ^ i) b = mul b (2 ^ i) := by
  intro i hi
  refine add_ext (fun b => mul (2 ^ i) b) (fun b => mul b (2 ^ i)) ?_ ?_ ?_ ?_
  ·show mul _ _ = mul _ _
   rw [mul_zero_right, mul_zero_left]
  ·intro a b _ _; exact mul_xor_right _ _ _
  ·intro a b ha hb; exact mul_xor_left _ ha hb
  ·intro j hj; exact base ⟨i, hi⟩ ⟨j, hj⟩
 refine add_ext (fun a => mul a b) (fun a => mul b a) ?_ ?_ ?_ ?_ a ha
 ·show mul _ _ = mul _ _
  rw [mul_zero_right, mul_zero_left]
 ·intro a c ha hc; exact mul_xor_left _ ha hc
 ·intro a c _ _; exact mul_xor_right _ _ _
 ·intro i hi; exact step i hi b hb

theorem mul_assoc {a b c : Nat} (ha : a < 256) (hb : b < 256) (hc : c < 256) : mul (mul a b) c = mul a (mul b c) := by
 have base : ∀ i j k : Fin 8, mul (mul (2 ^ i.val) (2 ^ j.val)) (2 ^ k.val) = mul (2 ^ i.val) (mul (2 ^ j.val) (2 ^ k.val)) := by decide +kernel
 have s1 : ∀ i, i < 8 → ∀ j, j < 8 → ∀ c, c < 256 → mul (mul (2 ^ i) (2 ^ j)) c = mul (2 ^ i) (mul (2 ^ j) c) := by
  intro i hi j hj
  refine add_ext (fun c => mul (mul (2 ^ i) (2 ^ j)) c) (fun c => mul (2 ^ i) (mul (2 ^ j) c)) ?_ ?_ ?_ ?_
  ·show mul _ _ = mul _ _
   rw [mul_zero_right, mul_zero_right, mul_zero_right]
  ·intro a b _ _; exact mul_xor_right _ _ _
  ·intro a b _ _
   show mul _ (mul _ _) = mul _ (mul _ _) ^^^ mul _ (mul _ _)
   rw [mul_xor_right, mul_xor_right]
  ·intro k hk; exact base ⟨i, hi⟩ ⟨j, hj⟩ ⟨k, hk⟩
 have s2 : ∀ i, i < 8 → ∀ b, b < 256 → mul (mul (2 ^ i) b) c = mul (2 ^ i) (mul b c) := by
  intro i hi
  refine add_ext (fun b => mul (mul (2 ^ i) b) c) (fun b => mul (2 ^ i) (mul b c)) ?_ ?_ ?_ ?_
  ·show mul (mul _ _) _ = mul _ (mul _ _)
   rw [mul_zero_right, mul_zero_left, mul_zero_right]
  ·intro a b ha hb
   show mul (mul _ _) _ = mul (mul _ _) _ ^^^ mul (mul _ _) _
   rw [mul_xor_right, mul_xor_left _ (mul_lt _ (pow2_lt hi)) (mul_lt _ (pow2_lt hi))]
  ·intro a b ha hb
   show mul _ (mul _ _) = mul _ (mul _ _) ^^^ mul _ (mul _ _)
   rw [mul_xor_left _ ha hb, mul_xor_right]
  ·intro j hj; exact s1 i hi j hj c hc
 refine add_ext (fun a => mul (mul a b) c) (fun a => mul a (mul b c)) ?_ ?_ ?_ ?_ a ha
 ·show mul (mul _ _) _ = mul _ (mul _ _)
  rw [mul_zero_left, mul_zero_left, mul_zero_left]
 ·intro x y hx hy
  show mul (mul _ _) _ = mul (mul _ _) _ ^^^ mul (mul _ _) _
  rw [mul_xor_left _ hx hy, mul_xor_left _ (mul_lt _ hx) (mul_lt _ hy)]
 ·intro x y hx hy; exact mul_xor_left _ hx hy
 ·intro i hi; exact s2 i hi b hb

theorem mul_one_right {a : Nat} : mul a 1 = a := by
 unfold mul
 simp only [gm]
 simp

theorem mul_one_left {a : Nat} (h : a < 256) : mul 1 a = a := by
 rw [mul_comm (by omega) h, mul_one_right]

def pow (a : Nat) : Nat → Nat
 | 0 => 1
 | n + 1 => mul (pow a n) a

theorem pow_lt {a : Nat} (h : a < 256) : ∀ n, pow a n < 256
 | 0 => by simp [pow]
 | n + 1 => mul_lt _ (pow_lt h n)

theorem pow_add {a : Nat} (h : a < 256) (n m : Nat) : pow a (n + m) = mul (pow a n) (pow a m) := by
 induction m with
 | zero => simp [pow, mul_one_right]
 | succ m ih =>
  show mul (pow a (n + m)) a = mul (pow a n) (mul (pow a m) a)
  rw [ih, mul_assoc (pow_lt h n) (pow_lt h m) h]

def sq (a : Nat) : Nat := mul a a
/-- a 254 times, by squares. -/
def inv254 (a : Nat) : Nat :=
 let a2 := sq a
 let a4 := sq a2
 let a8 := sq a4
 let a16 := sq a8
 let a32 := sq a16
 let a64 := sq a32
 let a128 := sq a64
 mul (mul (mul (mul (mul (mul a128 a64) a32) a16) a8) a4) a2

theorem pow_dbl {a : Nat} (h : a < 256) (n : Nat) : pow a (n + n) = sq (pow a n) := pow_add h n n

theorem pow_254 {a : Nat} (h : a < 256) : pow a 254 = inv254 a := by
 have p1 : pow a 1 = a := by show mul 1 a = a; exact mul_one_left h
 have p2 : pow a 2 = sq a := by rw [show (2 : Nat) = 1 + 1 from rfl, pow_dbl h, p1]
 have p4 : pow a 4 = sq (sq a) := by rw [show (4 : Nat) = 2 + 2 from rfl, pow_dbl h, p2]
 have p8 : pow a 8 = sq (sq (sq a)) := by rw [show (8 : Nat) = 4 + 4 from rfl, pow_dbl h, p4]
 have p16 : pow a 16 = sq (sq (sq (sq a))) := by rw [show (16 : Nat) = 8 + 8 from rfl, pow_dbl h, p8]
 have p32 : pow a 32 = sq (sq (sq (sq (sq a)))) := by rw [show (32 : Nat) = 16 + 16 from rfl, pow_dbl h, p16]
 have p64 : pow a 64 = sq (sq (sq (sq (sq (sq a))))) := by rw [show (64 : Nat) = 32 + 32 from rfl, pow_dbl h, p32]
 have p128 : pow a 128 = sq (sq (sq (sq (sq (sq (sq a)))))) := by rw [show (128 : Nat) = 64 + 64 from rfl, pow_dbl h, p64]
 rw [show (254 : Nat) = 128 + 64 + 32 + 16 + 8 + 4 + 2 from rfl, pow_add h, pow_add h, pow_add h, pow_add h, pow_add h, pow_add h, p128, p64, p32, p16, p8, p4, p2]
 rfl

theorem mul_inv {a : Nat} (h : a < 256) (h0 : a ≠ 0) : mul a (pow a 254) = 1 := by
 rw [pow_254 h]
 have key : ∀ a : Fin 256, a.val ≠ 0 → mul a.val (inv254 a.val) = 1 := by decide +kernel
 exact key ⟨a, h⟩ h0

/-- What is 1 with a is a 254 times. -/
theorem inv_unique {a b : Nat} (ha : a < 256) (hb : b < 256) (h : mul a b = 1) : b = pow a 254 := by
 have h0 : a ≠ 0 := by
  rintro rfl
  rw [mul_zero_left] at h
  omega
 have hp := pow_lt ha 254
 have h1 : mul (mul (pow a 254) a) b = b := by
  rw [mul_comm hp ha, mul_inv ha h0, mul_one_left hb]
 rw [mul_assoc hp ha hb, h, mul_one_right] at h1
 exact h1.symm

theorem pow_zero_base (n : Nat) : pow 0 (n + 1) = 0 := mul_zero_right _

end Gf

/-! ### products of bytes -/
def modb (a : Int) : Nat := (a % 256).toNat
theorem modb_lt (a : Int) : modb a < 256 := by unfold modb; omega
theorem modb_nat {a : Nat} (h : a < 256) : modb (a : Int) = a := by unfold modb; omega
theorem bits_xor64 {a b : Nat} (ha : a < 2 ^ 63) (hb : b < 2 ^ 63) : Go.bits .xor .i64 (a : Int) (b : Int) = ((a ^^^ b : Nat) : Int) := by
 have hx : a ^^^ b < 2 ^ 63 := Nat.xor_lt_two_pow ha hb
 have e : (BitVec.ofNat 64 a ^^^ BitVec.ofNat 64 b).toNat = a ^^^ b := by rw [BitVec.toNat_xor, BitVec.toNat_ofNat, BitVec.toNat_ofNat, Nat.mod_eq_of_lt (by omega), Nat.mod_eq_of_lt (by omega)]
 show IntKind.i64.wrap (((BitVec.ofInt 64 (a : Int)) ^^^ (BitVec.ofInt 64 (b : Int))).toNat : Int) = _
 rw [BitVec.ofInt_natCast, BitVec.ofInt_natCast, e, IntKind.wrap_i64]
 omega
theorem bits_and255 {a : Int} (h0 : -9223372036854775808 ≤ a) (h1 : a ≤ 9223372036854775807) : Go.bits .and .i64 a 255 = ((modb a : Nat) : Int) := by
 have e : ((BitVec.ofInt 64 a) &&& (BitVec.ofInt 64 255)).toNat = (a % 18446744073709551616).toNat % 256 := by
  rw [BitVec.toNat_and, BitVec.toNat_ofInt, show (BitVec.ofInt 64 255).toNat = 2 ^ 8 - 1 by decide, Nat.and_two_pow_sub_one_eq_mod]
  rfl
 show IntKind.i64.wrap (((BitVec.ofInt 64 a) &&& (BitVec.ofInt 64 255)).toNat : Int) = _
 rw [e, IntKind.wrap_i64]
 unfold modb
 omega
theorem bits_and1 {b : Nat} (h : b < 256) : Go.bits .and .i64 (b : Int) 1 = ((b % 2 : Nat) : Int) := by
 have e : ((BitVec.ofInt 64 (b : Int)) &&& (BitVec.ofInt 64 1)).toNat = b % 2 := by
  rw [BitVec.toNat_and, BitVec.ofInt_natCast, BitVec.toNat_ofNat, show (BitVec.ofInt 64 1).toNat = 2 ^ 1 - 1 by decide, Nat.and_two_pow_sub_one_eq_mod]
  show b % 2 ^ 64 % 2 ^ 1 = b % 2
  omega
 show IntKind.i64.wrap (((BitVec.ofInt 64 (b : Int)) &&& (BitVec.ofInt 64 1)).toNat : Int) = _
 rw [e, IntKind.wrap_i64]
 omega
def gmul (a b : Int) : Int := ((Gf.mul (modb a) (modb b) : Nat) : Int)
theorem gmul_range (a b : Int) : 0 ≤ gmul a b ∧ gmul a b ≤ 255 := by
 unfold gmul
 have := Gf.mul_lt (modb b) (modb_lt a)
 omega
theorem modb_gmul (a b : Int) : modb (gmul a b) = Gf.mul (modb a) (modb b) := modb_nat (Gf.mul_lt _ (modb_lt a))

theorem spec_l05Mod_eq {a : Int} (h0 : -9223372036854775808 ≤ a) (h1 : a ≤ 9223372036854775807) : spec_l05Mod.f a = some ((modb a : Nat) : Int) := by
 have e : Int.tmod a 256 = if a < 0 ∧ a % 256 ≠ 0 then a % 256 - 256 else a % 256 := by
  rcases Int.lt_or_le a 0 with h | h
  ·obtain ⟨n, rfl⟩ : ∃ n : Nat, a = -(n : Int) := ⟨(-a).toNat, by omega⟩
   rw [Int.neg_tmod, Int.tmod_eq_emod_of_nonneg (by omega)]
   split <;> omega
  ·rw [Int.tmod_eq_emod_of_nonneg h, if_neg (by omega)]
 unfold spec_l05Mod.f modb
 rw [e]
 by_cases c : a < 0 ∧ a % 256 ≠ 0
 ·rw [if_pos c, if_pos (by omega), w64 (by omega) (by omega)]
  congr 1
  omega
 ·rw [if_neg c, if_neg (by omega)]
  congr 1
  omega
theorem spec_MulG_l0 (n : Nat) : ∀ (a b out : Nat), a < 256 → b < 2 ^ n → n ≤ 8 → out < 256 → Ev (fun k => spec_MulG.l0 k (a : Int) (b : Int) (out : Int)) ((out ^^^ Gf.gm n a b : Nat) : Int) := by
 induction n with
 | zero =>
  intro a b out ha hb hn ho
  have hb0 : b = 0 := by omega
  subst hb0
  exact Ev.step (f := fun _ => some (out : Int)) (fun k => by simp only [spec_MulG.l0]; rw [if_neg (by omega)]) (by simpa [Gf.gm] using Ev.now _)
 | succ n ih =>
  intro a b out ha hb hn ho
  by_cases hb0 : b = 0
  ·subst hb0
   have hz : Gf.gm (n + 1) a 0 = 0 := by
    have : ∀ n a, Gf.gm n a 0 = 0 := by
     intro n
     induction n with
     | zero => intro a; rfl
     | succ n ih => intro a; simp [Gf.gm, ih]
    exact this _ _
   rw [hz, Nat.xor_zero]
   exact Ev.step (f := fun _ => some (out : Int)) (fun k => by simp only [spec_MulG.l0]; rw [if_neg (by omega)]) (Ev.now _)
  ·have h8 : 2 ^ n ≤ 2 ^ 8 := Nat.pow_le_pow_right (by omega) (by omega)
   have h9 : 2 ^ (n + 1) = 2 * 2 ^ n := by rw [Nat.pow_succ]; omega
   have h10 : 2 ^ (n + 1) ≤ 2 ^ 8 := Nat.pow_le_pow_right (by omega) hn
   have hm : Int.tmod (b : Int) 2 = ((b % 2 : Nat) : Int) := by rw [Int.tmod_eq_emod_of_nonneg (by omega)]; rfl
   have hd : wrap64 (Int.tdiv (b : Int) 2) = ((b / 2 : Nat) : Int) := by rw [Int.tdiv_eq_ediv_of_nonneg (by omega), w64 (by omega) (by omega)]; rfl
   have h2 : wrap64 (2 * (a : Int)) = ((2 * a : Nat) : Int) := by rw [w64 (by omega) (by omega)]; rfl
   have hx : ∀ m : Nat, m < 256 → (out ^^^ (if b % 2 = 1 then a else 0) ^^^ Gf.gm n (Gf.xt a) (b / 2)) = (out ^^^ Gf.gm (n + 1) a b) := by
    intro m _
    rw [Gf.gm, Nat.xor_assoc]
   have hxa : Go.bits .xor .i64 (out : Int) (a : Int) = ((out ^^^ a : Nat) : Int) := bits_xor64 (by omega) (by omega)
   have hx5 : Go.bits .xor .i64 ((2 * a : Nat) : Int) 285 = ((2 * a ^^^ 285 : Nat) : Int) := bits_xor64 (b := 285) (by omega) (by omega)
   rw [← hx 0 (by omega)]
   have hlt : out ^^^ (if b % 2 = 1 then a else 0) < 256 := Gf.xor_lt (n := 8) ho (by split <;> omega)
   refine Ev.step (f := fun k => spec_MulG.l0 k ((Gf.xt a : Nat) : Int) ((b / 2 : Nat) : Int) ((out ^^^ (if b % 2 = 1 then a else 0) : Nat) : Int)) (fun k => ?_) (ih _ _ _ (Gf.xt_lt ha) (by omega) (by omega) hlt)
   simp only [spec_MulG.l0, hm, hd, h2, hxa, hx5]
   rw [if_pos (by omega)]
   unfold Gf.xt
   by_cases c1 : b % 2 = 1 <;> by_cases c2 : 255 < 2 * a
   ·rw [if_pos (by omega), if_pos (by omega), if_pos c1, if_pos c2]
   ·rw [if_pos (by omega), if_neg (by omega), if_pos c1, if_neg c2]
   ·rw [if_neg (by omega), if_pos (by omega), if_neg c1, if_pos c2, Nat.xor_zero]
   ·rw [if_neg (by omega), if_neg (by omega), if_neg c1, if_neg c2, Nat.xor_zero]
theorem spec_MulG_ev {a b : Int} (a0 : -9223372036854775808 ≤ a) (a1 : a ≤ 9223372036854775807) (b0 : -9223372036854775808 ≤ b) (b1 : b ≤ 9223372036854775807) : Ev (fun k => spec_MulG.f k a b) (gmul a b) := by
 have h := spec_MulG_l0 8 (modb a) (modb b) 0 (modb_lt a) (modb_lt b) (Nat.le_refl _) (by omega)
 rw [Nat.zero_xor] at h
 refine Ev.congr (fun k => ?_) h
 unfold spec_MulG.f
 rw [spec_l05Mod_eq a0 a1, spec_l05Mod_eq b0 b1]
 rfl

theorem impl_MulG_l0 (n : Nat) : ∀ (a b out : Nat), a < 256 → b < 2 ^ n → n ≤ 8 → out < 256 → Ev (fun k => impl_MulG.l0 k (a : Int) (b : Int) (out : Int)) ((out ^^^ Gf.gm n a b : Nat) : Int) := by
 induction n with
 | zero =>
  intro a b out ha hb hn ho
  have hb0 : b = 0 := by omega
  subst hb0
  exact Ev.step (f := fun _ => some (out : Int)) (fun k => by simp only [impl_MulG.l0]; rw [if_neg (by omega)]) (by simpa [Gf.gm] using Ev.now _)
 | succ n ih =>
  intro a b out ha hb hn ho
  by_cases hb0 : b = 0
  ·subst hb0
   have hz : Gf.gm (n + 1) a 0 = 0 := by
    have : ∀ n a, Gf.gm n a 0 = 0 := by
     intro n
     induction n with
     | zero => intro a; rfl
     | succ n ih => intro a; simp [Gf.gm, ih]
    exact this _ _
   rw [hz, Nat.xor_zero]
   exact Ev.step (f := fun _ => some (out : Int)) (fun k => by simp only [impl_MulG.l0]; rw [if_neg (by omega)]) (Ev.now _)
  ·have h8 : 2 ^ n ≤ 2 ^ 8 := Nat.pow_le_pow_right (by omega) (by omega)
   have h9 : 2 ^ (n + 1) = 2 * 2 ^ n := by rw [Nat.pow_succ]; omega
   have h10 : 2 ^ (n + 1) ≤ 2 ^ 8 := Nat.pow_le_pow_right (by omega) hn
   have hm : Go.bits .and .i64 (b : Int) 1 = ((b % 2 : Nat) : Int) := bits_and1 (by omega)
   have hd : (b : Int) / 2 = ((b / 2 : Nat) : Int) := rfl
   have h2 : wrap64 ((a : Int) * 2) = ((2 * a : Nat) : Int) := by rw [w64 (by omega) (by omega)]; omega
   have hx : (out ^^^ (if b % 2 = 1 then a else 0) ^^^ Gf.gm n (Gf.xt a) (b / 2)) = (out ^^^ Gf.gm (n + 1) a b) := by
    rw [Gf.gm, Nat.xor_assoc]
   have hxa : Go.bits .xor .i64 (out : Int) (a : Int) = ((out ^^^ a : Nat) : Int) := bits_xor64 (by omega) (by omega)
   have hx5 : Go.bits .xor .i64 ((2 * a : Nat) : Int) 285 = ((2 * a ^^^ 285 : Nat) : Int) := bits_xor64 (b := 285) (by omega) (by omega)
   rw [← hx]
   have hlt : out ^^^ (if b % 2 = 1 then a else 0) < 256 := Gf.xor_lt (n := 8) ho (by split <;> omega)
   refine Ev.step (f := fun k => impl_MulG.l0 k ((Gf.xt a : Nat) : Int) ((b / 2 : Nat) : Int) ((out ^^^ (if b % 2 = 1 then a else 0) : Nat) : Int)) (fun k => ?_) (ih _ _ _ (Gf.xt_lt ha) (by omega) (by omega) hlt)
   simp only [impl_MulG.l0, hm, hd, h2, hxa, hx5]
   rw [if_pos (by omega)]
   unfold Gf.xt
   by_cases c1 : b % 2 = 1 <;> by_cases c2 : 255 < 2 * a
   ·rw [if_pos (by omega), if_pos (by omega), if_pos c1, if_pos c2]
   ·rw [if_pos (by omega), if_neg (by omega), if_pos c1, if_neg c2]
   ·rw [if_neg (by omega), if_pos (by omega), if_neg c1, if_pos c2, Nat.xor_zero]
   ·rw [if_neg (by omega), if_neg (by omega), if_neg c1, if_neg c2, Nat.xor_zero]
theorem impl_MulG_ev {a b : Int} (a0 : -9223372036854775808 ≤ a) (a1 : a ≤ 9223372036854775807) (b0 : -9223372036854775808 ≤ b) (b1 : b ≤ 9223372036854775807) : Ev (fun k => impl_MulG.f k a b) (gmul a b) := by
 have h := impl_MulG_l0 8 (modb a) (modb b) 0 (modb_lt a) (modb_lt b) (Nat.le_refl _) (by omega)
 rw [Nat.zero_xor] at h
 refine Ev.congr (fun k => ?_) h
 unfold impl_MulG.f
 rw [bits_and255 a0 a1, bits_and255 b0 b1]
 rfl

/-! ### powers -/
def gpow (a : Int) (n : Int) : Int := if 0 ≤ n ∧ n ≤ 1000 then ((Gf.pow (modb a) n.toNat : Nat) : Int) else 0
theorem gmul_pow (a : Int) (i : Nat) : gmul ((Gf.pow (modb a) i : Nat) : Int) a = ((Gf.pow (modb a) (i + 1) : Nat) : Int) := by
 unfold gmul
 rw [modb_nat (Gf.pow_lt (modb_lt a) i)]
 rfl

theorem spec_PowG_l0 {a : Int} (a0 : -9223372036854775808 ≤ a) (a1 : a ≤ 9223372036854775807) (n : Nat) (hn : n ≤ 1000) (d : Nat) : ∀ i : Nat, i ≤ n → n - i = d →
  Ev (fun k => spec_PowG.l0 k a (n : Int) ((Gf.pow (modb a) i : Nat) : Int) (i : Int)) ((Gf.pow (modb a) n : Nat) : Int) := by
 induction d with
 | zero =>
  intro i hi hd
  obtain rfl : i = n := by omega
  exact Ev.step (f := fun _ => some ((Gf.pow (modb a) i : Nat) : Int)) (fun k => by simp only [spec_PowG.l0]; rw [if_neg (by omega)]) (Ev.now _)
 | succ d ih =>
  intro i hi hd
  have hl := Gf.pow_lt (modb_lt a) i
  refine Ev.step (f := fun k => (spec_MulG.f k ((Gf.pow (modb a) i : Nat) : Int) a).bind fun t => spec_PowG.l0 k a (n : Int) t ((i + 1 : Nat) : Int)) (fun k => ?_) (Ev.bind (spec_MulG_ev (by omega) (by omega) a0 a1) ?_)
  ·simp only [spec_PowG.l0]
   rw [if_pos (by omega), w64 (by omega) (by omega)]
   rfl
  ·rw [gmul_pow]
   exact ih (i + 1) (by omega) (by omega)
theorem spec_PowG_ev {a n : Int} (a0 : -9223372036854775808 ≤ a) (a1 : a ≤ 9223372036854775807) : Ev (fun k => spec_PowG.f k a n) (gpow a n) := by
 unfold gpow spec_PowG.f
 simp only [spec_l01In_eq, Option.bind_some, decide_eq_true_eq]
 by_cases h : 0 ≤ n ∧ n ≤ 1000
 ·simp only [if_pos h]
  obtain ⟨m, rfl⟩ := Int.eq_ofNat_of_zero_le h.1
  exact spec_PowG_l0 a0 a1 m (by omega) m 0 (by omega) (by omega)
 ·simp only [if_neg h]
  exact Ev.now _

/-! ### inverses -/
def ginv (a : Int) : Int := if modb a = 0 then 0 else ((Gf.pow (modb a) 254 : Nat) : Int)
theorem ginv_range (a : Int) : 0 ≤ ginv a ∧ ginv a ≤ 255 := by
 unfold ginv
 have := Gf.pow_lt (modb_lt a) 254
 split <;> omega

theorem spec_InvG_ev {a : Int} (a0 : -9223372036854775808 ≤ a) (a1 : a ≤ 9223372036854775807) : Ev (fun k => spec_InvG.f k a) (ginv a) := by
 unfold spec_InvG.f ginv
 rw [spec_l05Mod_eq a0 a1]
 simp only [Option.bind_some]
 have hl := modb_lt a
 by_cases h : modb a = 0
 ·simp only [h, if_true, Int.natCast_zero]
  exact Ev.now _
 ·simp only [if_neg h, if_neg (show ¬ ((modb a : Nat) : Int) = 0 by omega)]
  have hp := spec_PowG_ev (a := ((modb a : Nat) : Int)) (n := 254) (by omega) (by omega)
  have e : gpow ((modb a : Nat) : Int) 254 = ((Gf.pow (modb a) 254 : Nat) : Int) := by
   unfold gpow
   rw [if_pos (by omega), modb_nat hl]
   rfl
  rw [e] at hp
  exact Ev.bind hp (Ev.now _)

/-! ### matrices of bytes -/
def xs : Nat → (Nat → Nat) → Nat
 | 0, _ => 0
 | n + 1, h => xs n h ^^^ h n
theorem xs_lt {h : Nat → Nat} : ∀ {n : Nat}, (∀ k, k < n → h k < 256) → xs n h < 256
 | 0, _ => by simp [xs]
 | n + 1, H => Gf.xor_lt (n := 8) (xs_lt (fun k hk => H k (by omega))) (H n (by omega))
theorem xs_congr {f g : Nat → Nat} : ∀ {n : Nat}, (∀ k, k < n → f k = g k) → xs n f = xs n g
 | 0, _ => rfl
 | n + 1, H => by rw [xs, xs, xs_congr (fun k hk => H k (by omega)), H n (by omega)]
theorem xs_zero : ∀ n : Nat, xs n (fun _ => 0) = 0
 | 0 => rfl
 | n + 1 => by rw [xs, xs_zero n, Nat.xor_self]
theorem xs_xor (f g : Nat → Nat) : ∀ n : Nat, xs n (fun k => f k ^^^ g k) = xs n f ^^^ xs n g
 | 0 => by simp [xs]
 | n + 1 => by
  rw [xs, xs, xs, xs_xor f g n]
  ac_rfl
theorem mul_xs (a : Nat) (h : Nat → Nat) : ∀ n : Nat, Gf.mul a (xs n h) = xs n (fun k => Gf.mul a (h k))
 | 0 => Gf.mul_zero_right a
 | n + 1 => by rw [xs, xs, Gf.mul_xor_right, mul_xs a h n]
theorem xs_mul (b : Nat) {h : Nat → Nat} : ∀ {n : Nat}, (∀ k, k < n → h k < 256) → Gf.mul (xs n h) b = xs n (fun k => Gf.mul (h k) b)
 | 0, _ => Gf.mul_zero_left b
 | n + 1, H => by rw [xs, xs, Gf.mul_xor_left b (xs_lt (fun k hk => H k (by omega))) (H n (by omega)), xs_mul b (fun k hk => H k (by omega))]
theorem xs_swap (m : Nat) (h : Nat → Nat → Nat) : ∀ n : Nat, xs n (fun k => xs m (fun l => h k l)) = xs m (fun l => xs n (fun k => h k l))
 | 0 => (xs_zero m).symm
 | n + 1 => by
  rw [xs, xs_swap m h n]
  exact (xs_xor _ _ m).symm
theorem xs_off {j : Nat} (f : Nat → Nat) : ∀ {n : Nat}, n ≤ j → xs n (fun k => if k = j then f k else 0) = 0
 | 0, _ => rfl
 | n + 1, h => by rw [xs, xs_off f (by omega), if_neg (by omega), Nat.xor_self]
theorem xs_one {j : Nat} (f : Nat → Nat) : ∀ {n : Nat}, j < n → xs n (fun k => if k = j then f k else 0) = f j
 | n + 1, h => by
  rw [xs]
  by_cases e : n = j
  ·subst e
   rw [if_pos rfl, xs_off f (Nat.le_refl _), Nat.zero_xor]
  ·rw [if_neg e, xs_one f (by omega), Nat.xor_zero]
def mk (r c : Nat) (f : Nat → Nat → Nat) : List (List Int) := (List.range r).map fun i => (List.range c).map fun j => ((f i j : Nat) : Int)
def ent (m : List (List Int)) (i j : Nat) : Nat := ((m.getD i []).getD j 0).toNat
theorem mk_length (r c : Nat) (f : Nat → Nat → Nat) : (mk r c f).length = r := by simp [mk]
theorem mk_get (r c : Nat) (f : Nat → Nat → Nat) {i : Nat} (hi : i < r) : (mk r c f).getD i [] = (List.range c).map fun j => ((f i j : Nat) : Int) := by
 unfold mk
 rw [List.getD_eq_getElem?_getD, List.getElem?_map, List.getElem?_range hi]
 rfl
theorem headD_getD (m : List (List Int)) : m.headD [] = m.getD 0 [] := by cases m <;> rfl
theorem mk_head (r c : Nat) (f : Nat → Nat → Nat) (hr : 0 < r) : ((mk r c f).headD []).length = c := by rw [headD_getD, mk_get r c f hr]; simp
theorem ent_mk (r c : Nat) (f : Nat → Nat → Nat) {i j : Nat} (hi : i < r) (hj : j < c) : ent (mk r c f) i j = f i j := by
 unfold ent
 rw [mk_get r c f hi, List.getD_eq_getElem?_getD, List.getElem?_map, List.getElem?_range hj]
 rfl
theorem mk_congr {r c : Nat} {f g : Nat → Nat → Nat} (H : ∀ i, i < r → ∀ j, j < c → f i j = g i j) : mk r c f = mk r c g := by
 unfold mk
 refine List.map_congr_left (fun i hi => List.map_congr_left (fun j hj => ?_))
 rw [H i (List.mem_range.mp hi) j (List.mem_range.mp hj)]
theorem okM_mk {r c : Nat} {f : Nat → Nat → Nat} (h1 : 1 ≤ r) (h2 : r ≤ 8) (h3 : 1 ≤ c) (h4 : c ≤ 8) (H : ∀ i, i < r → ∀ j, j < c → f i j < 256) : okM (mk r c f) = true := by
 unfold okM
 rw [mk_length, mk_head r c f (by omega)]
 have e1 : in18 r = true := decide_eq_true ⟨h1, h2⟩
 have e2 : in18 c = true := decide_eq_true ⟨h3, h4⟩
 rw [e1, e2, Bool.true_and, Bool.true_and, List.all_eq_true]
 intro x hx
 unfold mk at hx
 obtain ⟨i, hi, rfl⟩ := List.mem_map.mp hx
 unfold okR
 rw [Bool.and_eq_true]
 refine ⟨by simp, ?_⟩
 rw [List.all_eq_true]
 intro y hy
 obtain ⟨j, hj, rfl⟩ := List.mem_map.mp hy
 have := H i (List.mem_range.mp hi) j (List.mem_range.mp hj)
 unfold inB
 exact decide_eq_true (by omega)
theorem of_okM {m : List (List Int)} (h : okM m = true) : 1 ≤ m.length ∧ m.length ≤ 8 ∧ 1 ≤ (m.headD []).length ∧ (m.headD []).length ≤ 8 ∧ (∀ i, i < m.length → (m.getD i []).length = (m.headD []).length ∧ ∀ x ∈ m.getD i [], 0 ≤ x ∧ x ≤ 255) := by
 unfold okM at h
 rw [Bool.and_eq_true, Bool.and_eq_true] at h
 obtain ⟨⟨h1, h2⟩, h3⟩ := h
 have h1 := of_decide_eq_true h1
 have h2 := of_decide_eq_true h2
 refine ⟨h1.1, h1.2, h2.1, h2.2, fun i hi => ?_⟩
 rw [List.all_eq_true] at h3
 have e : m.getD i [] = m[i] := by rw [List.getD_eq_getElem?_getD, List.getElem?_eq_getElem hi]; rfl
 have h4 := h3 _ (List.getElem_mem hi)
 unfold okR at h4
 rw [Bool.and_eq_true] at h4
 rw [e]
 refine ⟨of_decide_eq_true h4.1, fun x hx => ?_⟩
 exact of_decide_eq_true (List.all_eq_true.mp h4.2 x hx)
theorem rd_ent {m : List (List Int)} (h : okM m = true) {i j : Nat} (hi : i < m.length) (hj : j < (m.headD []).length) : rd (rd_L2 m (i : Int)) (j : Int) = ((ent m i j : Nat) : Int) ∧ ent m i j < 256 := by
 obtain ⟨_, _, _, _, H⟩ := of_okM h
 obtain ⟨h1, h2⟩ := H i hi
 unfold rd rd_L2 ent
 rw [Int.toNat_natCast, Int.toNat_natCast]
 have hj' : j < (m.getD i []).length := by omega
 have e : (m.getD i []).getD j 0 = (m.getD i [])[j] := by rw [List.getD_eq_getElem?_getD, List.getElem?_eq_getElem hj']; rfl
 have := h2 _ (List.getElem_mem hj')
 rw [e]
 omega
theorem rdL_len {m : List (List Int)} (h : okM m = true) {i : Nat} (hi : i < m.length) : (rd_L2 m (i : Int)).length = (m.headD []).length := by
 obtain ⟨_, _, _, _, H⟩ := of_okM h
 unfold rd_L2
 rw [Int.toNat_natCast]
 exact (H i hi).1
theorem eq_mk {m : List (List Int)} (h : okM m = true) : m = mk m.length (m.headD []).length (ent m) := by
 obtain ⟨_, _, _, _, H⟩ := of_okM h
 refine List.ext_getElem (by rw [mk_length]) (fun i h1 h2 => ?_)
 have e : m[i] = m.getD i [] := by rw [List.getD_eq_getElem?_getD, List.getElem?_eq_getElem h1]; rfl
 have e2 : (mk m.length (m.headD []).length (ent m))[i] = (mk m.length (m.headD []).length (ent m)).getD i [] := by rw [List.getD_eq_getElem?_getD, List.getElem?_eq_getElem h2]; rfl
 rw [e, e2, mk_get _ _ _ h1]
 obtain ⟨h3, h4⟩ := H i h1
 refine List.ext_getElem (by simpa using h3) (fun j h5 h6 => ?_)
 have := h4 _ (List.getElem_mem h5)
 have h8 : (m.getD i []).getD j 0 = (m.getD i [])[j] := by rw [List.getD_eq_getElem?_getD (l := m.getD i []), List.getElem?_eq_getElem h5]; rfl
 have h7 : ent m i j = ((m.getD i [])[j]).toNat := by unfold ent; rw [h8]
 rw [List.getElem_map, List.getElem_range, h7]
 omega
theorem gmul_nn {a b : Nat} (ha : a < 256) (hb : b < 256) : gmul (a : Int) (b : Int) = ((Gf.mul a b : Nat) : Int) := by
 unfold gmul
 rw [modb_nat ha, modb_nat hb]
def mulM (a b : List (List Int)) : List (List Int) := mk a.length (b.headD []).length (fun i j => xs b.length (fun k => Gf.mul (ent a i k) (ent b k j)))
def mulR (a b : List (List Int)) : List (List Int) := if okM a = true ∧ okM b = true ∧ (a.headD []).length = b.length then mulM a b else []
theorem range_map_succ {α : Type} (F : Nat → α) (n : Nat) : (List.range (n + 1)).map F = (List.range n).map F ++ [F n] := by rw [List.range_succ, List.map_append]; rfl
theorem mulR_mk {r n c : Nat} {f g : Nat → Nat → Nat} (hr : 1 ≤ r ∧ r ≤ 8) (hn : 1 ≤ n ∧ n ≤ 8) (hc : 1 ≤ c ∧ c ≤ 8) (hf : ∀ i, i < r → ∀ j, j < n → f i j < 256) (hg : ∀ i, i < n → ∀ j, j < c → g i j < 256) :
  mulR (mk r n f) (mk n c g) = mk r c (fun i j => xs n (fun k => Gf.mul (f i k) (g k j))) := by
 unfold mulR
 rw [if_pos ⟨okM_mk hr.1 hr.2 hn.1 hn.2 hf, okM_mk hn.1 hn.2 hc.1 hc.2 hg, by rw [mk_head r n f (by omega), mk_length]⟩]
 unfold mulM
 rw [mk_length, mk_length, mk_head n c g (by omega)]
 refine mk_congr (fun i hi j hj => xs_congr (fun k hk => ?_))
 rw [ent_mk r n f hi hk, ent_mk n c g hk hj]
theorem mul_lt_of {n : Nat} {f g : Nat → Nat} (hf : ∀ k, k < n → f k < 256) : xs n (fun k => Gf.mul (f k) (g k)) < 256 := xs_lt (fun k hk => Gf.mul_lt _ (hf k hk))
def idf (i j : Nat) : Nat := if i = j then 1 else 0
theorem idf_lt (i j : Nat) : idf i j < 256 := by unfold idf; split <;> omega

theorem mk_rows {r c : Nat} {f : Nat → Nat → Nat} {N : Nat} (h : c ≤ N) : ∀ x ∈ mk r c f, x.length ≤ N := by
 intro x hx
 unfold mk at hx
 obtain ⟨i, _, rfl⟩ := List.mem_map.mp hx
 simp
 exact h

/-! ### spec.MulM -/
theorem spec_MulM_ev (a b : List (List Int)) (ha : a.length ≤ 1099511627776) (hb : b.length ≤ 1099511627776) (hra : ∀ r ∈ a, r.length ≤ 1099511627776) (hrb : ∀ r ∈ b, r.length ≤ 1099511627776) : Ev (fun k => spec_MulM.f k a b) (mulR a b) := by
 have ea := spec_MatrixOk_ev a (by omega) (fun r hr => by have := hra r hr; omega)
 have eb := spec_MatrixOk_ev b (by omega) (fun r hr => by have := hrb r hr; omega)
 have bad : Ev (fun k => spec_MulM.j0 k a b [] true) ([] : List (List Int)) := Ev.step (f := fun _ => some []) (fun k => by simp only [spec_MulM.j0, if_true]) (Ev.now _)
 unfold spec_MulM.f
 refine Ev.some_bind rfl (Ev.bind ea ?_)
 cases oa : okM a with
 | false =>
  rw [show mulR a b = [] by unfold mulR; rw [if_neg (by simp [oa])]]
  exact Ev.neg (by simp) bad
 | true =>
  refine Ev.pos rfl (Ev.bind eb ?_)
  cases ob : okM b with
  | false =>
   rw [show mulR a b = [] by unfold mulR; rw [if_neg (by simp [ob])]]
   exact Ev.neg (by simp) bad
  | true =>
   obtain ⟨a1, a2, a3, a4, _⟩ := of_okM oa
   obtain ⟨b1, b2, b3, b4, _⟩ := of_okM ob
   refine Ev.pos rfl (Ev.pos (by omega) ?_)
   rw [rdL_zero]
   by_cases hn : (a.headD []).length = b.length
   ·rw [show mulR a b = mulM a b by unfold mulR; rw [if_pos ⟨oa, ob, hn⟩]]
    rw [show ((((a.headD []).length : Nat) : Int) != ((b.length : Nat) : Int)) = false by rw [hn]; simp]
    have L2 : ∀ (i j : Nat), i < a.length → j < (b.headD []).length → ∀ (out : List (List Int)) (P Q : List Int) (v : List (List Int)), P.length = j →
      ∀ d k : Nat, k ≤ b.length → b.length - k = d →
      Ev (fun q => spec_MulM.l1 q a b out (i : Int) (P ++ ((xs b.length (fun k => Gf.mul (ent a i k) (ent b k j)) : Nat) : Int) :: Q) ((j + 1 : Nat) : Int)) v →
      Ev (fun q => spec_MulM.l2 q a b out (i : Int) (P ++ ((xs k (fun k => Gf.mul (ent a i k) (ent b k j)) : Nat) : Int) :: Q) (j : Int) (k : Int)) v := by
     intro i j hi hj out P Q v hP d
     have hla := rdL_len oa hi
     induction d with
     | zero =>
      intro k hk hd h
      obtain rfl : k = b.length := by omega
      refine Ev.step (fun q => ?_) h
      simp only [spec_MulM.l2]
      rw [if_neg (by omega), wsucc (by omega)]
     | succ d ih =>
      intro k hk hd h
      have z := ih (k + 1) (by omega) (by omega) h
      have hlb := rdL_len ob (i := k) (by omega)
      obtain ⟨q1, q2⟩ := rd_ent oa hi (j := k) (by omega)
      obtain ⟨q3, q4⟩ := rd_ent ob (i := k) (by omega) hj
      have lt := mul_lt_of (n := k) (f := fun k => ent a i k) (g := fun k => ent b k j) (fun l hl => (rd_ent oa hi (j := l) (by omega)).2)
      have mt := Gf.mul_lt (ent b k j) q2
      have em := spec_MulG_ev (a := ((ent a i k : Nat) : Int)) (b := ((ent b k j : Nat) : Int)) (by omega) (by omega) (by omega) (by omega)
      rw [gmul_nn q2 q4] at em
      refine Ev.step (f := fun q => (spec_MulG.f q ((ent a i k : Nat) : Int) ((ent b k j : Nat) : Int)).bind fun t => spec_MulM.l2 q a b out (i : Int) ((P ++ ((xs k (fun k => Gf.mul (ent a i k) (ent b k j)) : Nat) : Int) :: Q).set P.length (Go.bits .xor .i64 ((xs k (fun k => Gf.mul (ent a i k) (ent b k j)) : Nat) : Int) t)) (j : Int) ((k + 1 : Nat) : Int)) (fun q => ?_) (Ev.bind em ?_)
      ·simp only [spec_MulM.l2]
       rw [if_pos (by omega), if_pos (by omega), if_pos (by simp; omega), if_pos (by omega), if_pos (by omega), if_pos (by omega), if_pos (by omega), if_pos (by omega), q1, q3, wsucc (by omega), Int.toNat_natCast]
       subst hP
       rw [rdI_mid]
      ·rw [set_midI, bits_xor64 (by omega) (by omega)]
       exact z
    have L1 : ∀ (i : Nat), i < a.length → ∀ (out : List (List Int)) (v : List (List Int)), out.length ≤ 8 →
      Ev (fun q => spec_MulM.l0 q a b (out ++ [(List.range (b.headD []).length).map fun j => ((xs b.length (fun k => Gf.mul (ent a i k) (ent b k j)) : Nat) : Int)]) ((i + 1 : Nat) : Int)) v →
      ∀ d j : Nat, j ≤ (b.headD []).length → (b.headD []).length - j = d →
      Ev (fun q => spec_MulM.l1 q a b out (i : Int) ((List.range j).map (fun j => ((xs b.length (fun k => Gf.mul (ent a i k) (ent b k j)) : Nat) : Int)) ++ List.replicate d 0) (j : Int)) v := by
     intro i hi out v ho h d
     induction d with
     | zero =>
      intro j hj hd
      obtain rfl : j = (b.headD []).length := by omega
      refine Ev.step (fun q => ?_) h
      simp only [spec_MulM.l1]
      rw [if_pos (by omega), rdL_zero, if_neg (by omega), if_pos (by omega), wsucc (by omega), List.replicate_zero, List.append_nil]
     | succ d ih =>
      intro j hj hd
      have z := ih (j + 1) (by omega) (by omega)
      rw [range_map_succ, List.append_assoc] at z
      have y := L2 i j hi (by omega) out ((List.range j).map (fun j => ((xs b.length (fun k => Gf.mul (ent a i k) (ent b k j)) : Nat) : Int))) (List.replicate d 0) v (by simp) b.length 0 (by omega) (by omega) z
      refine Ev.step (fun q => ?_) y
      simp only [spec_MulM.l1]
      rw [if_pos (by omega), rdL_zero, if_pos (by omega), List.replicate_succ]
      rfl
    have L0 : ∀ d i : Nat, i ≤ a.length → a.length - i = d → Ev (fun q => spec_MulM.l0 q a b ((List.range i).map fun i => (List.range (b.headD []).length).map fun j => ((xs b.length (fun k => Gf.mul (ent a i k) (ent b k j)) : Nat) : Int)) (i : Int)) (mulM a b) := by
     intro d
     induction d with
     | zero =>
      intro i hi hd
      obtain rfl : i = a.length := by omega
      refine Ev.step (f := fun _ => some (mulM a b)) (fun q => ?_) (Ev.now _)
      simp only [spec_MulM.l0]
      rw [if_neg (by omega)]
      rfl
     | succ d ih =>
      intro i hi hd
      have z := ih (i + 1) (by omega) (by omega)
      rw [range_map_succ] at z
      have y := L1 i (by omega) _ _ (by simp; omega) z (b.headD []).length 0 (by omega) (by omega)
      refine Ev.step (fun q => ?_) y
      simp only [spec_MulM.l0]
      rw [if_pos (by omega), if_pos (by omega), rdL_zero, if_pos (by omega), if_pos (by omega), Int.toNat_natCast]
      simp
    have y := L0 a.length 0 (by omega) (by omega)
    refine Ev.step (fun q => ?_) y
    simp only [spec_MulM.j0, Bool.false_eq_true, if_false]
    rfl
   ·rw [show mulR a b = [] by unfold mulR; rw [if_neg (fun h => hn h.2.2)]]
    rw [show ((((a.headD []).length : Nat) : Int) != ((b.length : Nat) : Int)) = true from bne_iff_ne.mpr (by omega)]
    exact bad

/-! ### the matrix of ones -/
def oneR (n : Int) : List (List Int) := if 1 ≤ n ∧ n ≤ 8 then mk n.toNat n.toNat idf else []
theorem one_row {n i : Nat} (hi : i < n) : (List.replicate n (0 : Int)).set i 1 = (List.range n).map fun j => ((idf i j : Nat) : Int) := by
 refine List.ext_getElem (by simp) (fun j h1 h2 => ?_)
 rw [List.getElem_set, List.getElem_map, List.getElem_range]
 unfold idf
 by_cases e : i = j
 ·rw [if_pos e, if_pos e]; rfl
 ·rw [if_neg e, if_neg e, List.getElem_replicate]; rfl

/-! ### spec.OneM -/
theorem spec_OneM_ev (n : Int) : Ev (fun k => spec_OneM.f k n) (oneR n) := by
 unfold spec_OneM.f oneR
 by_cases h : 1 ≤ n ∧ n ≤ 8
 ·rw [if_pos h]
  obtain ⟨N, rfl⟩ := Int.eq_ofNat_of_zero_le (show 0 ≤ n by omega)
  have key : ∀ d i : Nat, i ≤ N → N - i = d → Ev (fun q => spec_OneM.l0 q (N : Int) ((List.range i).map fun i => (List.range N).map fun j => ((idf i j : Nat) : Int)) (i : Int)) (mk N N idf) := by
   intro d
   induction d with
   | zero =>
    intro i hi hd
    obtain rfl : i = N := by omega
    refine Ev.step (f := fun _ => some (mk i i idf)) (fun q => ?_) (Ev.now _)
    simp only [spec_OneM.l0]
    rw [if_neg (by omega)]
    rfl
   | succ d ih =>
    intro i hi hd
    have z := ih (i + 1) (by omega) (by omega)
    rw [range_map_succ] at z
    refine Ev.step (fun q => ?_) z
    simp only [spec_OneM.l0]
    rw [if_pos (by omega), spec_l01In_eq, Option.bind_some, if_pos (decide_eq_true h), if_pos (by omega), if_pos (by omega), Option.bind_some, if_pos (by omega), Int.toNat_natCast, Int.toNat_natCast, List.length_replicate, if_pos (by omega), if_pos (by simp; omega), wsucc (by omega), one_row (by omega)]
  exact key N 0 (by omega) (by omega)
 ·rw [if_neg h]
  by_cases h0 : 0 < n
  ·refine Ev.step (f := fun _ => some []) (fun q => ?_) (Ev.now _)
   simp only [spec_OneM.l0]
   rw [if_pos h0, spec_l01In_eq, Option.bind_some, if_neg (by simpa using h)]
  ·refine Ev.step (f := fun _ => some []) (fun q => ?_) (Ev.now _)
   simp only [spec_OneM.l0]
   rw [if_neg h0]

/-! ### lists of bytes as numbers -/
def ints (l : List UInt8) : List Int := l.map fun b => (b.toNat : Int)
theorem ints_length (l : List UInt8) : (ints l).length = l.length := by simp [ints]
theorem ints_app (l m : List UInt8) : ints (l ++ m) = ints l ++ ints m := by simp [ints]
theorem bytesOf_ints (s : ByteArray) : bytesOf s = ints s.data.toList := rfl
theorem str_ints (l : List UInt8) : strOfNums (ints l) = ⟨l.toArray⟩ := by
 unfold strOfNums ints
 congr 1
 rw [List.map_map]
 congr 1
 conv => rhs; rw [← List.map_id l]
 refine List.map_congr_left (fun b _ => ?_)
 simp
theorem set_mid {α : Type} (A : List α) (x v : α) (B : List α) : (A ++ x :: B).set A.length v = A ++ v :: B := by simp
theorem rd_mid (A : List Int) (x : Int) (B : List Int) : rd (A ++ x :: B) (A.length : Int) = x := by simp [rd]
theorem bt_mid (s : ByteArray) {A : List UInt8} {x : UInt8} {B : List UInt8} (h : s.data.toList = A ++ x :: B) : bt s (A.length : Int) = (x.toNat : Int) := by
 have hl : A.length < s.size := by
  have h1 : s.data.toList.length = s.size := rfl
  rw [h] at h1
  simp at h1
  omega
 unfold bt
 rw [dif_pos (by simpa using hl)]
 have e : s.data.toList[A.length]'(by simpa using hl) = x := by simp [h]
 show (((s.data[A.length]'hl).toNat : Nat) : Int) = _
 rw [← e]
 simp
theorem size_of_list (s : ByteArray) {l : List UInt8} (h : s.data.toList = l) : s.size = l.length := by
 have h1 : s.data.toList.length = s.size := rfl
 rw [h] at h1
 omega

/-! ### a text so many times -/
def mulB (a : Nat) (b : UInt8) : UInt8 := UInt8.ofNat (Gf.mul a b.toNat)
def mulL (a : Nat) (l : List UInt8) : List UInt8 := l.map (mulB a)
def mulT (a : Nat) (s : ByteArray) : ByteArray := ⟨(mulL a s.data.toList).toArray⟩
theorem mulB_nat {a : Nat} (ha : a < 256) (b : UInt8) : (mulB a b).toNat = Gf.mul a b.toNat := by
 have := Gf.mul_lt b.toNat ha
 simp only [mulB, UInt8.toNat_ofNat']
 omega
theorem gmul_byte (a : Int) (b : UInt8) : gmul a (b.toNat : Int) = ((mulB (modb a) b).toNat : Int) := by
 have := b.toNat_lt
 rw [mulB_nat (modb_lt a)]
 unfold gmul
 rw [modb_nat (by omega)]

theorem impl_MulText_l0 {a : Int} (a0 : -9223372036854775808 ≤ a) (a1 : a ≤ 9223372036854775807) (s : ByteArray) (hs : s.size ≤ 1073741824) : ∀ (rest pre done : List UInt8), s.data.toList = pre ++ rest → pre.length = done.length →
  Ev (fun k => impl_MulText.l0 k a s (ints done ++ List.replicate rest.length 0) (s.size : Int) (done.length : Int)) (strOfNums (ints (done ++ mulL (modb a) rest))) := by
 intro rest
 induction rest with
 | nil =>
  intro pre done he hp
  have hsz := size_of_list s he
  simp only [List.append_nil] at hsz
  refine Ev.step (f := fun _ => some (strOfNums (ints (done ++ mulL (modb a) [])))) (fun k => ?_) (Ev.now _)
  simp only [impl_MulText.l0]
  rw [if_neg (by omega)]
  simp [mulL]
 | cons b rest ih =>
  intro pre done he hp
  have hb := b.toNat_lt
  have hsz := size_of_list s he
  simp only [List.length_append, List.length_cons] at hsz
  refine Ev.step (f := fun k => (impl_MulG.f k a (b.toNat : Int)).bind fun t => impl_MulText.l0 k a s ((ints done ++ 0 :: List.replicate rest.length 0).set done.length (t % 256)) (s.size : Int) ((done.length + 1 : Nat) : Int)) (fun k => ?_) (Ev.bind (impl_MulG_ev a0 a1 (by omega) (by omega)) ?_)
  ·simp only [impl_MulText.l0]
   have e := bt_mid s he
   rw [hp] at e
   rw [if_pos (by omega), if_pos (by omega), if_pos (by omega), wsucc (by omega), e, wnat (by omega)]
   congr 1
   funext t
   rw [if_pos (by rw [List.length_append, ints_length, List.length_replicate, List.length_cons]; omega)]
   rfl
  ·have e : (ints done ++ 0 :: List.replicate rest.length 0).set done.length (gmul a (b.toNat : Int) % 256) = ints (done ++ [mulB (modb a) b]) ++ List.replicate rest.length 0 := by
    have h1 := set_mid (ints done) 0 (gmul a (b.toNat : Int) % 256) (List.replicate rest.length 0)
    rw [ints_length] at h1
    have h2 := gmul_range a (b.toNat : Int)
    rw [h1, show gmul a (b.toNat : Int) % 256 = ((mulB (modb a) b).toNat : Int) by rw [← gmul_byte]; omega]
    simp [ints]
   rw [e]
   have h := ih (pre ++ [b]) (done ++ [mulB (modb a) b]) (by rw [he]; simp) (by simp; omega)
   rw [List.length_append] at h
   rw [show done ++ mulL (modb a) (b :: rest) = done ++ [mulB (modb a) b] ++ mulL (modb a) rest by simp [mulL]]
   exact h
theorem impl_MulText_ev {a : Int} (a0 : -9223372036854775808 ≤ a) (a1 : a ≤ 9223372036854775807) (s : ByteArray) (hs : s.size ≤ 1073741824) : Ev (fun k => impl_MulText.f k a s) (mulT (modb a) s) := by
 unfold impl_MulText.f
 refine Ev.pos (by omega) (Ev.pos (by omega) (Ev.some_bind rfl ?_))
 have h := impl_MulText_l0 a0 a1 s hs s.data.toList [] [] rfl rfl
 rw [str_len, str_ints] at h
 simp only [ints, List.map_nil, List.nil_append, List.length_nil] at h
 simp only [Int.toNat_natCast, List.length_replicate]
 exact h

theorem bits_xor8 (a b : UInt8) : Go.bits .xor .u8 (a.toNat : Int) (b.toNat : Int) = ((a ^^^ b).toNat : Int) := by
 have ha := a.toNat_lt
 have hb := b.toNat_lt
 have hx : a.toNat ^^^ b.toNat < 2 ^ 8 := Nat.xor_lt_two_pow (by omega) (by omega)
 have e : (BitVec.ofNat 8 a.toNat ^^^ BitVec.ofNat 8 b.toNat).toNat = a.toNat ^^^ b.toNat := by rw [BitVec.toNat_xor, BitVec.toNat_ofNat, BitVec.toNat_ofNat, Nat.mod_eq_of_lt (by omega), Nat.mod_eq_of_lt (by omega)]
 show IntKind.u8.wrap (((BitVec.ofInt 8 (a.toNat : Int)) ^^^ (BitVec.ofInt 8 (b.toNat : Int))).toNat : Int) = _
 rw [BitVec.ofInt_natCast, BitVec.ofInt_natCast, e, IntKind.wrap_u8, UInt8.toNat_xor]
 omega

/-! ### sums of texts -/
def addL : List UInt8 → List UInt8 → List UInt8
 | [], ys => ys
 | xs, [] => xs
 | x :: xs, y :: ys => (x ^^^ y) :: addL xs ys
def addT (a b : ByteArray) : ByteArray := ⟨(addL a.data.toList b.data.toList).toArray⟩
theorem addL_nil (xs : List UInt8) : addL xs [] = xs := by cases xs <;> rfl
theorem nil_addL (xs : List UInt8) : addL [] xs = xs := rfl
theorem addL_comm : ∀ xs ys : List UInt8, addL xs ys = addL ys xs
 | [], ys => by rw [addL_nil]; rfl
 | x :: xs, [] => rfl
 | x :: xs, y :: ys => by simp only [addL]; rw [addL_comm xs ys, UInt8.xor_comm]
theorem addL_length : ∀ xs ys : List UInt8, (addL xs ys).length = max xs.length ys.length
 | [], ys => by simp [addL]
 | x :: xs, [] => by simp [addL]
 | x :: xs, y :: ys => by simp only [addL, List.length_cons, addL_length xs ys]; omega
theorem addL_zeros : ∀ (xs ys : List UInt8) (n : Nat), xs.length + n = max xs.length ys.length → addL (xs ++ List.replicate n 0) ys = addL xs ys
 | [], [], 0, _ => rfl
 | [], [], n + 1, h => by simp at h
 | [], y :: ys, 0, h => by simp at h
 | [], y :: ys, n + 1, h => by
  have ih := addL_zeros [] ys n (by simp at h ⊢; exact h)
  simp only [List.nil_append, List.replicate_succ, addL] at ih ⊢
  rw [ih, UInt8.zero_xor]
 | x :: xs, [], n, h => by
  have : n = 0 := by simp at h; exact h
  subst this
  simp
 | x :: xs, y :: ys, n, h => by
  simp only [List.cons_append, addL]
  rw [addL_zeros xs ys n (by simp only [List.length_cons] at h; omega)]

theorem impl_AddText_l0 (s : ByteArray) (hs : s.size ≤ 1073741824) : ∀ (rb rest pre done : List UInt8), s.data.toList = pre ++ rb → pre.length = done.length → rb.length ≤ rest.length →
  Ev (fun k => impl_AddText.l0 k s (ints (done ++ rest)) (done.length : Int)) (strOfNums (ints (done ++ addL rest rb))) := by
 intro rb
 induction rb with
 | nil =>
  intro rest pre done he hp hr
  have hsz := size_of_list s he
  simp only [List.append_nil] at hsz
  refine Ev.step (f := fun _ => some (strOfNums (ints (done ++ addL rest [])))) (fun k => ?_) (Ev.now _)
  simp only [impl_AddText.l0]
  rw [if_neg (by omega), addL_nil]
 | cons b rb ih =>
  intro rest pre done he hp hr
  have hsz := size_of_list s he
  simp only [List.length_append, List.length_cons] at hsz
  cases rest with
  | nil => simp at hr
  | cons r rest =>
   simp only [List.length_cons] at hr
   have h := ih rest (pre ++ [b]) (done ++ [r ^^^ b]) (by rw [he]; simp) (by simp; omega) (by omega)
   rw [List.length_append] at h
   refine Ev.step (fun k => ?_) (by rw [show done ++ addL (r :: rest) (b :: rb) = done ++ [r ^^^ b] ++ addL rest rb by simp [addL]]; exact h)
   simp only [impl_AddText.l0]
   have e := bt_mid s he
   rw [hp] at e
   have e2 : rd (ints (done ++ r :: rest)) (done.length : Int) = (r.toNat : Int) := by
    have := rd_mid (ints done) (r.toNat : Int) (ints rest)
    rw [ints_length] at this
    rw [ints_app]
    exact this
   rw [if_pos (by omega), if_pos (by omega), if_pos (by rw [ints_length, List.length_append, List.length_cons]; omega), wsucc (by omega), e, e2, bits_xor8]
   have h1 := set_mid (ints done) (r.toNat : Int) ((r ^^^ b).toNat : Int) (ints rest)
   rw [ints_length] at h1
   have e3 : (ints (done ++ r :: rest)).set done.length ((r ^^^ b).toNat : Int) = ints (done ++ [r ^^^ b] ++ rest) := by
    rw [ints_app]
    refine Eq.trans h1 ?_
    simp [ints]
   rw [show ((done.length : Int)).toNat = done.length from Int.toNat_natCast _, e3]
   rfl
theorem impl_AddText_ev (a b : ByteArray) (ha : a.size ≤ 1073741824) (hb : b.size ≤ 1073741824) : Ev (fun k => impl_AddText.f k a b) (addT a b) := by
 have hm : mx (a.size : Int) (b.size : Int) = ((max a.size b.size : Nat) : Int) := by
  unfold mx
  split <;> omega
 unfold impl_AddText.f
 rw [hm]
 refine Ev.pos (by omega) (Ev.pos (by omega) (Ev.some_bind rfl (Ev.pos (by rw [List.length_replicate]; omega) ?_)))
 have hc : copyS (List.replicate (max a.size b.size) 0) a = ints (a.data.toList ++ List.replicate (max a.size b.size - a.size) 0) := by
  unfold copyS
  rw [bytesOf_ints, ints_app, List.drop_replicate]
  simp [ints]
 have h := impl_AddText_l0 b hb b.data.toList (a.data.toList ++ List.replicate (max a.size b.size - a.size) 0) [] [] rfl rfl (by rw [List.length_append, List.length_replicate, str_len, str_len]; omega)
 rw [addL_zeros _ _ _ (by rw [str_len, str_len]; omega), str_ints] at h
 rw [Int.toNat_natCast, hc]
 exact h

/-! ### laws of sums and products of texts -/
theorem addT_list (a b : ByteArray) : (addT a b).data.toList = addL a.data.toList b.data.toList := rfl
theorem mulT_list (x : Nat) (a : ByteArray) : (mulT x a).data.toList = mulL x a.data.toList := rfl
theorem addT_size (a b : ByteArray) : (addT a b).size = max a.size b.size := by
 have h : (addT a b).data.toList.length = (addT a b).size := rfl
 rw [← h, addT_list, addL_length]
 rfl
theorem mulT_size (x : Nat) (a : ByteArray) : (mulT x a).size = a.size := by
 have h : (mulT x a).data.toList.length = (mulT x a).size := rfl
 rw [← h, mulT_list, mulL, List.length_map]
 rfl

/-! ### what a matrix makes of texts -/
def tsum : Nat → (Nat → ByteArray) → ByteArray
 | 0, _ => ⟨#[]⟩
 | n + 1, h => addT (tsum n h) (h n)
theorem tsum_size {N : Nat} {h : Nat → ByteArray} : ∀ {n : Nat}, (∀ k, k < n → (h k).size ≤ N) → (tsum n h).size ≤ N
 | 0, _ => Nat.zero_le _
 | n + 1, H => by
  rw [tsum, addT_size]
  have h1 := tsum_size (n := n) (fun k hk => H k (by omega))
  have h2 := H n (by omega)
  omega
def applyM (m : List (List Int)) (u : List ByteArray) : List ByteArray := (List.range m.length).map fun i => tsum u.length (fun j => mulT (ent m i j) (u.getD j ByteArray.empty))
def applyR (m : List (List Int)) (u : List ByteArray) : List ByteArray := if okM m = true ∧ (m.headD []).length = u.length then applyM m u else []
theorem applyR_size (m : List (List Int)) (u : List ByteArray) : (applyR m u).length ≤ 8 := by
 unfold applyR
 by_cases h : okM m = true ∧ (m.headD []).length = u.length
 ·rw [if_pos h]
  obtain ⟨_, h2, _⟩ := of_okM h.1
  unfold applyM
  rw [List.length_map, List.length_range]
  exact h2
 ·rw [if_neg h]
  simp
theorem unit_size {u : List ByteArray} {N : Nat} (hu : ∀ x ∈ u, x.size ≤ N) (j : Nat) : (u.getD j ByteArray.empty).size ≤ N := by
 rw [List.getD_eq_getElem?_getD]
 by_cases h : j < u.length
 ·rw [List.getElem?_eq_getElem h]
  exact hu _ (List.getElem_mem h)
 ·rw [List.getElem?_eq_none (by omega)]
  exact Nat.zero_le _

/-! ### impl.ApplyM -/
theorem impl_ApplyM_ev (m : List (List Int)) (u : List ByteArray) (hm : m.length ≤ 1099511627776) (hr : ∀ r ∈ m, r.length ≤ 1099511627776) (hu : ∀ x ∈ u, x.size ≤ 1073741824) : Ev (fun k => impl_ApplyM.f k m u) (applyR m u) := by
 have em := impl_MatrixOk_ev m (by omega) (fun r h => by have := hr r h; omega)
 have bad : Ev (fun k => impl_ApplyM.j0 k m u true) ([] : List ByteArray) := Ev.step (f := fun _ => some []) (fun k => by simp only [impl_ApplyM.j0, if_true]) (Ev.now _)
 unfold impl_ApplyM.f
 refine Ev.bind em ?_
 cases om : okM m with
 | false =>
  rw [show applyR m u = [] by unfold applyR; rw [if_neg (by simp [om])]]
  exact Ev.neg (by simp) bad
 | true =>
  obtain ⟨a1, a2, a3, a4, _⟩ := of_okM om
  refine Ev.pos rfl (Ev.pos (by omega) ?_)
  rw [rdL_zero]
  by_cases hn : (m.headD []).length = u.length
  ·rw [show applyR m u = applyM m u by unfold applyR; rw [if_pos ⟨om, hn⟩]]
   rw [show ((((m.headD []).length : Nat) : Int) != ((u.length : Nat) : Int)) = false by rw [hn]; simp]
   have L1 : ∀ (i : Nat), i < m.length → ∀ (out v : List ByteArray), out.length ≤ 8 →
     Ev (fun q => impl_ApplyM.l0 q u (out ++ [tsum u.length (fun j => mulT (ent m i j) (u.getD j ByteArray.empty))]) m (m.length : Int) ((i + 1 : Nat) : Int)) v →
     ∀ d j : Nat, j ≤ u.length → u.length - j = d →
     Ev (fun q => impl_ApplyM.l1 q u out (tsum j (fun j => mulT (ent m i j) (u.getD j ByteArray.empty))) m (m.length : Int) (i : Int) (rd_L2 m (i : Int)) ((rd_L2 m (i : Int)).length : Int) (j : Int)) v := by
    intro i hi out v ho h d
    have hl := rdL_len om hi
    induction d with
    | zero =>
     intro j hj hd
     obtain rfl : j = u.length := by omega
     refine Ev.step (fun q => ?_) h
     simp only [impl_ApplyM.l1]
     rw [if_neg (by omega), if_pos (by omega), wsucc (by omega)]
    | succ d ih =>
     intro j hj hd
     have z := ih (j + 1) (by omega) (by omega)
     rw [tsum] at z
     obtain ⟨q1, q2⟩ := rd_ent om hi (j := j) (by omega)
     have us := unit_size hu j
     have e1 := impl_MulText_ev (a := ((ent m i j : Nat) : Int)) (by omega) (by omega) (u.getD j ByteArray.empty) us
     rw [modb_nat q2] at e1
     have ts := tsum_size (N := 1073741824) (n := j) (h := fun j => mulT (ent m i j) (u.getD j ByteArray.empty)) (fun k _ => by rw [mulT_size]; exact unit_size hu k)
     have e2 := impl_AddText_ev (tsum j (fun j => mulT (ent m i j) (u.getD j ByteArray.empty))) (mulT (ent m i j) (u.getD j ByteArray.empty)) ts (by rw [mulT_size]; exact us)
     refine Ev.step (f := fun q => (impl_MulText.f q ((ent m i j : Nat) : Int) (u.getD j ByteArray.empty)).bind fun t => (impl_AddText.f q (tsum j (fun j => mulT (ent m i j) (u.getD j ByteArray.empty))) t).bind fun s => impl_ApplyM.l1 q u out s m (m.length : Int) (i : Int) (rd_L2 m (i : Int)) ((rd_L2 m (i : Int)).length : Int) ((j + 1 : Nat) : Int)) (fun q => ?_) (Ev.bind e1 (Ev.bind e2 z))
     simp only [impl_ApplyM.l1]
     rw [if_pos (by omega), if_pos (by omega), if_pos (by omega), if_pos (by omega), q1, wsucc (by omega)]
     unfold rdOf
     rw [Int.toNat_natCast]
   have L0 : ∀ d i : Nat, i ≤ m.length → m.length - i = d → Ev (fun q => impl_ApplyM.l0 q u ((List.range i).map fun i => tsum u.length (fun j => mulT (ent m i j) (u.getD j ByteArray.empty))) m (m.length : Int) (i : Int)) (applyM m u) := by
    intro d
    induction d with
    | zero =>
     intro i hi hd
     obtain rfl : i = m.length := by omega
     refine Ev.step (f := fun _ => some (applyM m u)) (fun q => ?_) (Ev.now _)
     simp only [impl_ApplyM.l0]
     rw [if_neg (by omega)]
     rfl
    | succ d ih =>
     intro i hi hd
     have z := ih (i + 1) (by omega) (by omega)
     rw [range_map_succ] at z
     have y := L1 i (by omega) _ _ (by rw [List.length_map, List.length_range]; omega) z u.length 0 (by omega) (by omega)
     refine Ev.step (fun q => ?_) y
     simp only [impl_ApplyM.l0]
     rw [if_pos (by omega), if_pos (by omega), if_pos (by omega)]
     rfl
   have y := L0 m.length 0 (by omega) (by omega)
   refine Ev.step (fun q => ?_) y
   simp only [impl_ApplyM.j0, Bool.false_eq_true, if_false]
   rfl
  ·rw [show applyR m u = [] by unfold applyR; rw [if_neg (fun h => hn h.2)]]
   rw [show ((((m.headD []).length : Nat) : Int) != ((u.length : Nat) : Int)) = true from bne_iff_ne.mpr (by omega)]
   exact bad

/-! ### texts of one length -/
def bt8 (s : ByteArray) (t : Nat) : Nat := (s.data.toList.getD t 0).toNat
theorem bt8_lt (s : ByteArray) (t : Nat) : bt8 s t < 256 := UInt8.toNat_lt _
def ofB (N : Nat) (g : Nat → Nat) : ByteArray := ⟨((List.range N).map fun t => UInt8.ofNat (g t)).toArray⟩
theorem ofB_list (N : Nat) (g : Nat → Nat) : (ofB N g).data.toList = (List.range N).map fun t => UInt8.ofNat (g t) := rfl
theorem ofB_size (N : Nat) (g : Nat → Nat) : (ofB N g).size = N := by
 have := size_of_list (ofB N g) (ofB_list N g)
 rw [this, List.length_map, List.length_range]
theorem ofB_congr {N : Nat} {g h : Nat → Nat} (H : ∀ t, t < N → g t = h t) : ofB N g = ofB N h := by
 unfold ofB
 rw [List.map_congr_left (fun t ht => by rw [H t (List.mem_range.mp ht)])]
theorem ofB_self {s : ByteArray} {N : Nat} (hs : s.size = N) : ofB N (bt8 s) = s := by
 have hl : s.data.toList.length = N := by rw [← hs]; rfl
 have e : ((List.range N).map fun t => UInt8.ofNat (bt8 s t)) = s.data.toList := by
  refine List.ext_getElem (by rw [List.length_map, List.length_range, hl]) (fun i h1 h2 => ?_)
  rw [List.getElem_map, List.getElem_range]
  unfold bt8
  rw [List.getD_eq_getElem?_getD, List.getElem?_eq_getElem h2]
  exact UInt8.ofNat_toNat
 unfold ofB
 rw [e]
theorem addL_map (f g : Nat → UInt8) : ∀ l : List Nat, addL (l.map f) (l.map g) = l.map (fun t => f t ^^^ g t)
 | [] => rfl
 | t :: l => by
  simp only [List.map_cons, addL]
  rw [addL_map f g l]
theorem ofB_add (N : Nat) (g h : Nat → Nat) : addT (ofB N g) (ofB N h) = ofB N (fun t => g t ^^^ h t) := by
 unfold addT
 rw [ofB_list, ofB_list, addL_map]
 unfold ofB
 congr 2
 exact List.map_congr_left (fun t _ => (UInt8.ofNat_xor ..).symm)
theorem ofB_mul (N x : Nat) {g : Nat → Nat} (hg : ∀ t, t < N → g t < 256) : mulT x (ofB N g) = ofB N (fun t => Gf.mul x (g t)) := by
 unfold mulT mulL
 rw [ofB_list, List.map_map]
 unfold ofB
 congr 2
 refine List.map_congr_left (fun t ht => ?_)
 have := hg t (List.mem_range.mp ht)
 show UInt8.ofNat (Gf.mul x (UInt8.ofNat (g t)).toNat) = _
 rw [UInt8.toNat_ofNat', Nat.mod_eq_of_lt (by omega)]
theorem tsum_congr {g h : Nat → ByteArray} : ∀ {n : Nat}, (∀ k, k < n → g k = h k) → tsum n g = tsum n h
 | 0, _ => rfl
 | n + 1, H => by rw [tsum, tsum, tsum_congr (fun k hk => H k (by omega)), H n (by omega)]
theorem tsum_ofB (N : Nat) (H : Nat → Nat → Nat) : ∀ n : Nat, tsum (n + 1) (fun k => ofB N (H k)) = ofB N (fun t => xs (n + 1) (fun k => H k t))
 | 0 => by
  have e : addT (⟨#[]⟩ : ByteArray) (ofB N (H 0)) = ofB N (H 0) := by
   unfold addT
   show (⟨(addL [] (ofB N (H 0)).data.toList).toArray⟩ : ByteArray) = _
   rw [nil_addL]
  rw [tsum, tsum, e]
  exact ofB_congr (fun t _ => by simp [xs])
 | n + 1 => by
  rw [tsum, tsum_ofB N H n, ofB_add]
  rfl
def unitsB (n N : Nat) (U : Nat → Nat → Nat) : List ByteArray := (List.range n).map fun k => ofB N (U k)
theorem unitsB_length (n N : Nat) (U : Nat → Nat → Nat) : (unitsB n N U).length = n := by simp [unitsB]
theorem unitsB_get {n N : Nat} (U : Nat → Nat → Nat) {k : Nat} (hk : k < n) : (unitsB n N U).getD k ByteArray.empty = ofB N (U k) := by
 unfold unitsB
 rw [List.getD_eq_getElem?_getD, List.getElem?_map, List.getElem?_range hk]
 rfl
theorem unitsB_congr {n N : Nat} {U V : Nat → Nat → Nat} (H : ∀ k, k < n → ∀ t, t < N → U k t = V k t) : unitsB n N U = unitsB n N V := by
 unfold unitsB
 exact List.map_congr_left (fun k hk => ofB_congr (H k (List.mem_range.mp hk)))
theorem unitsB_size (n N : Nat) (U : Nat → Nat → Nat) : ∀ x ∈ unitsB n N U, x.size = N := by
 intro x hx
 obtain ⟨k, _, rfl⟩ := List.mem_map.mp hx
 exact ofB_size _ _
theorem applyR_units {r n N : Nat} {A U : Nat → Nat → Nat} (r1 : 1 ≤ r) (r8 : r ≤ 8) (n1 : 1 ≤ n) (n8 : n ≤ 8) (hA : ∀ i, i < r → ∀ j, j < n → A i j < 256) (hU : ∀ k, k < n → ∀ t, t < N → U k t < 256) :
  applyR (mk r n A) (unitsB n N U) = unitsB r N (fun i t => xs n (fun k => Gf.mul (A i k) (U k t))) := by
 unfold applyR
 rw [if_pos ⟨okM_mk r1 r8 n1 n8 hA, by rw [mk_head r n A (by omega), unitsB_length]⟩]
 unfold applyM
 rw [mk_length, unitsB_length]
 refine List.map_congr_left (fun i hi => ?_)
 have hi := List.mem_range.mp hi
 obtain ⟨m, rfl⟩ : ∃ m, n = m + 1 := ⟨n - 1, by omega⟩
 rw [tsum_congr (h := fun k => ofB N (fun t => Gf.mul (A i k) (U k t))) (fun k hk => ?_)]
 ·exact tsum_ofB N (fun k t => Gf.mul (A i k) (U k t)) m
 ·rw [unitsB_get U hk, ent_mk r (m + 1) A hi hk, ofB_mul N _ (hU k hk)]
theorem assoc_pt {r n m : Nat} {X Y : Nat → Nat → Nat} {z : Nat → Nat} {i : Nat} (hX : ∀ l, l < n → X i l < 256) (hY : ∀ l, l < n → ∀ k, k < m → Y l k < 256) (hz : ∀ k, k < m → z k < 256) :
  xs m (fun k => Gf.mul (xs n (fun l => Gf.mul (X i l) (Y l k))) (z k)) = xs n (fun l => Gf.mul (X i l) (xs m (fun k => Gf.mul (Y l k) (z k)))) := by
 have e1 : xs m (fun k => Gf.mul (xs n (fun l => Gf.mul (X i l) (Y l k))) (z k)) = xs m (fun k => xs n (fun l => Gf.mul (X i l) (Gf.mul (Y l k) (z k)))) :=
  xs_congr (fun k hk => by
   rw [xs_mul _ (fun l hl => Gf.mul_lt _ (hX l hl))]
   exact xs_congr (fun l hl => Gf.mul_assoc (hX l hl) (hY l hl k hk) (hz k hk)))
 rw [e1, xs_swap]
 exact xs_congr (fun l hl => (mul_xs _ _ _).symm)
theorem id_pt {n : Nat} {z : Nat → Nat} {i : Nat} (hi : i < n) (hz : ∀ k, k < n → z k < 256) : xs n (fun k => Gf.mul (idf i k) (z k)) = z i := by
 have e : xs n (fun k => Gf.mul (idf i k) (z k)) = xs n (fun k => if k = i then z k else 0) := xs_congr (fun k hk => by
  unfold idf
  by_cases h : k = i
  ·subst h
   rw [if_pos rfl, if_pos rfl, Gf.mul_one_left (hz k hk)]
  ·rw [if_neg h, if_neg (fun e => h e.symm), Gf.mul_zero_left])
 rw [e, xs_one z hi]

/-! ### lists of texts, compared -/
theorem rdB_nat {l : List ByteArray} {i : Nat} (h : i < l.length) : rdOf ByteArray.empty l (i : Int) = l[i] := by
 unfold rdOf
 rw [Int.toNat_natCast, List.getD_eq_getElem?_getD, List.getElem?_eq_getElem h]
 rfl
theorem sameT_ev (l : List ByteArray) (hl : l.length ≤ 4611686018427387904) : Ev (fun k => laws_sameTexts.f k l l) true := by
 have key : ∀ d (i : Nat), i ≤ l.length → l.length - i = d → Ev (fun k => laws_sameTexts.l0 k l l (i : Int)) true := by
  intro d
  induction d with
  | zero =>
   intro i hi hd
   exact Ev.step (f := fun _ => some true) (fun k => by simp only [laws_sameTexts.l0]; rw [if_neg (by omega)]) (Ev.now _)
  | succ d ih =>
   intro i hi hd
   refine Ev.step (fun k => ?_) (ih (i + 1) (by omega) (by omega))
   simp only [laws_sameTexts.l0]
   rw [if_pos (by omega), if_pos (by omega), if_pos (by omega), wsucc (by omega)]
   simp only [if_true]
 unfold laws_sameTexts.f
 simp only [if_true]
 exact key l.length 0 (by omega) (by omega)

/-! ### what is drawn -/
theorem and255_range (x : Int) : 0 ≤ Go.bits .and .i64 x 255 ∧ Go.bits .and .i64 x 255 ≤ 255 := by
 have e : ((BitVec.ofInt 64 x) &&& (BitVec.ofInt 64 255)).toNat = (x % 18446744073709551616).toNat % 256 := by
  rw [BitVec.toNat_and, BitVec.toNat_ofInt, show (BitVec.ofInt 64 255).toNat = 2 ^ 8 - 1 by decide, Nat.and_two_pow_sub_one_eq_mod]
  rfl
 have e2 : Go.bits .and .i64 x 255 = IntKind.i64.wrap (((BitVec.ofInt 64 x) &&& (BitVec.ofInt 64 255)).toNat : Int) := rfl
 rw [e2, e, IntKind.wrap_i64]
 omega
theorem byte_ex (l : List Int) (i h : Int) (hl : l.length ≤ 140737488351232) (hi : 0 ≤ i) : ∃ x i' h', spec_l01Byte.f l i h = some (x, i', h') ∧ 0 ≤ x ∧ x ≤ 255 ∧ 0 ≤ i' := by
 unfold spec_l01Byte.f
 by_cases c : i < (l.length : Int)
 ·rw [if_pos c, if_pos hi]
  refine ⟨_, _, _, rfl, (and255_range _).1, (and255_range _).2, ?_⟩
  rw [w64 (by omega) (by omega)]
  omega
 ·rw [if_neg c]
  exact ⟨_, _, _, rfl, (and255_range _).1, (and255_range _).2, hi⟩
theorem below_ex (l : List Int) (i h n : Int) (hl : l.length ≤ 140737488351232) (hi : 0 ≤ i) (hn : n ≤ 4294967296) : ∃ x i' h', spec_l01Below.f l i h n = some (x, i', h') ∧ 0 ≤ x ∧ (0 < n → x < n) ∧ (n ≤ 0 → x = 0) ∧ 0 ≤ i' := by
 unfold spec_l01Below.f
 by_cases c1 : n ≤ 0
 ·rw [if_pos c1]
  exact ⟨_, _, _, rfl, by omega, by omega, fun _ => rfl, hi⟩
 ·rw [if_neg c1]
  by_cases c2 : n ≤ 256
  ·rw [if_pos c2]
   obtain ⟨x, i1, h1, e1, b0, b1, hi1⟩ := byte_ex l i h hl hi
   simp only [e1, Option.bind_some]
   rw [if_neg (by omega)]
   refine ⟨_, _, _, rfl, Int.tmod_nonneg _ b0, fun _ => ?_, by omega, hi1⟩
   exact Int.tmod_lt_of_pos _ (by omega)
  ·rw [if_neg c2]
   obtain ⟨x, i1, h1, e1, x0, x1, hi1⟩ := byte_ex l i h hl hi
   obtain ⟨y, i2, h2, e2, y0, y1, hi2⟩ := byte_ex l i1 h1 hl hi1
   obtain ⟨z, i3, h3, e3, z0, z1, hi3⟩ := byte_ex l i2 h2 hl hi2
   obtain ⟨u, i4, h4, e4, u0, u1, hi4⟩ := byte_ex l i3 h3 hl hi3
   simp only [e1, e2, e3, e4, Option.bind_some]
   rw [if_neg (by omega)]
   refine ⟨_, _, _, rfl, Int.tmod_nonneg _ ?_, fun _ => Int.tmod_lt_of_pos _ (by omega), by omega, hi4⟩
   rw [w64 (x := x * 16777216) (by omega) (by omega), w64 (x := y * 65536) (by omega) (by omega), w64 (x := z * 256) (by omega) (by omega), w64 (x := x * 16777216 + y * 65536) (by omega) (by omega), w64 (x := x * 16777216 + y * 65536 + z * 256) (by omega) (by omega), w64 (by omega) (by omega)]
   omega
theorem new_ev (l : List Int) (hl : l.length ≤ 140737488351232) : ∃ h, Ev (fun k => spec_l01New.f k l) (l, 0, h) := by
 have key : ∀ d (i : Nat) (h : Int), l.length - i = d → ∃ h', Ev (fun k => spec_l01New.l0 k l h (i : Int)) (l, 0, h') := by
  intro d
  induction d with
  | zero =>
   intro i h hd
   exact ⟨h, Ev.step (f := fun _ => some (l, 0, h)) (fun k => by simp only [spec_l01New.l0]; rw [if_neg (by omega)]) (Ev.now _)⟩
  | succ d ih =>
   intro i h hd
   by_cases c : (i : Int) < 4000
   ·obtain ⟨h', hh⟩ := ih (i + 1) _ (by omega)
    refine ⟨h', Ev.step (fun k => ?_) hh⟩
    simp only [spec_l01New.l0]
    rw [if_pos (by omega), if_pos c, if_pos (by omega), wsucc (by omega)]
   ·exact ⟨h, Ev.step (f := fun _ => some (l, 0, h)) (fun k => by simp only [spec_l01New.l0]; rw [if_pos (by omega), if_neg c]) (Ev.now _)⟩
 obtain ⟨h', hh⟩ := key l.length 0 (wrap64 (36801 + (l.length : Int))) (by omega)
 exact ⟨h', hh⟩

theorem text_ev (l : List Int) (i h n : Int) (hl : l.length ≤ 140737488351232) (hi : 0 ≤ i) (hn : n ≤ 5000) : ∃ t i' h', Ev (fun k => spec_l01Text.f k l i h n) (t, i', h') ∧ t.size = n.toNat ∧ 0 ≤ i' := by
 have key : ∀ d (j : Nat) (acc : List Int) (i h : Int), j ≤ n.toNat → n.toNat - j = d → acc.length = j → 0 ≤ i → ∃ t i' h', Ev (fun k => spec_l01Text.l0 k n acc (j : Int) l i h) (t, i', h') ∧ t.size = n.toNat ∧ 0 ≤ i' := by
  intro d
  induction d with
  | zero =>
   intro j acc i h hj hd ha hi
   refine ⟨strOfNums acc, i, h, Ev.step (f := fun _ => some (strOfNums acc, i, h)) (fun k => by simp only [spec_l01Text.l0]; rw [if_neg (by omega)]) (Ev.now _), ?_, hi⟩
   rw [strOfNums_size]
   omega
  | succ d ih =>
   intro j acc i h hj hd ha hi
   obtain ⟨y, i2, h2, e2, _, _, hi2⟩ := byte_ex l i h hl hi
   obtain ⟨t, i3, h3, hp, hp1, hp2⟩ := ih (j + 1) (acc ++ [y % 256]) i2 h2 (by omega) (by omega) (by simp; omega) hi2
   refine ⟨t, i3, h3, Ev.step (fun k => ?_) hp, hp1, hp2⟩
   simp only [spec_l01Text.l0]
   rw [if_pos (by omega), e2]
   simp only [Option.bind_some]
   rw [if_pos (by omega), wsucc (by omega)]
 obtain ⟨t, i', h', ht, hs, hi'⟩ := key n.toNat 0 [] i h (by omega) (by omega) rfl hi
 refine ⟨t, i', h', ?_, hs, hi'⟩
 unfold spec_l01Text.f
 simp only [if_neg (show ¬ n > 5000 by omega)]
 exact Ev.step (fun k => by simp only [spec_l01Text.j0]; rfl) ht

/-! ### squares that are drawn -/
theorem pick5_ex (l : List Int) (i h x y : Int) (hl : l.length ≤ 140737488351232) (hi : 0 ≤ i) (hx : 0 ≤ x ∧ x ≤ 255) (hy : 0 ≤ y ∧ y ≤ 255) : ∃ r i' h', spec_l01PickInt.f l i h [0, 1, 2, x, y] = some (r, i', h') ∧ 0 ≤ r ∧ r ≤ 255 ∧ 0 ≤ i' := by
 obtain ⟨z, i1, h1, e1, z0, z1, _, hi1⟩ := below_ex l i h 5 hl hi (by omega)
 unfold spec_l01PickInt.f
 rw [show (([0, 1, 2, x, y] : List Int).length : Int) = 5 from rfl, e1, Option.bind_some, if_pos z0, if_pos (z1 (by omega))]
 refine ⟨_, _, _, rfl, ?_, ?_, hi1⟩
 all_goals
  have z2 := z1 (by omega)
  obtain ⟨n, rfl⟩ := Int.eq_ofNat_of_zero_le z0
  have hn : n = 0 ∨ n = 1 ∨ n = 2 ∨ n = 3 ∨ n = 4 := by omega
  rcases hn with rfl | rfl | rfl | rfl | rfl
 ·exact Int.le_refl _
 ·show (0 : Int) ≤ 1; omega
 ·show (0 : Int) ≤ 2; omega
 ·exact hx.1
 ·exact hy.1
 ·show (0 : Int) ≤ 255; omega
 ·show (1 : Int) ≤ 255; omega
 ·show (2 : Int) ≤ 255; omega
 ·exact hx.2
 ·exact hy.2
def byteRow (n : Nat) (r : List Int) : Prop := r.length = n ∧ ∀ x ∈ r, 0 ≤ x ∧ x ≤ 255
theorem square_ev (l : List Int) (n : Nat) (hl : l.length ≤ 140737488351232) (h1 : 1 ≤ n) (h8 : n ≤ 8) (i h : Int) (hi : 0 ≤ i) :
  ∃ m i' h', Ev (fun k => spec_l06Square.f k l i h (n : Int)) (m, i', h') ∧ 0 ≤ i' ∧ m.length = n ∧ ∀ r ∈ m, byteRow n r := by
 have inner : ∀ d (j : Nat) (row : List Int) (i h : Int), n - j = d → j ≤ n → 0 ≤ i → row.length = j → (∀ x ∈ row, 0 ≤ x ∧ x ≤ 255) → ∀ (out : List (List Int)) (c : Nat), out.length = c → c < n →
   ∃ r i' h', byteRow n r ∧ 0 ≤ i' ∧ ∀ v, Ev (fun k => spec_l06Square.l0 k (n : Int) (out ++ [r]) ((c + 1 : Nat) : Int) l i' h') v → Ev (fun k => spec_l06Square.l1 k (n : Int) out (c : Int) row (j : Int) l i h) v := by
  intro d
  induction d with
  | zero =>
   intro j row i h hd hj hi hr hb out c ho hc
   refine ⟨row, i, h, ⟨by omega, hb⟩, hi, fun v hv => Ev.step (fun k => ?_) hv⟩
   simp only [spec_l06Square.l1]
   rw [if_neg (by omega), if_pos (by omega), wsucc (by omega)]
  | succ d ih =>
   intro j row i h hd hj hi hr hb out c ho hc
   obtain ⟨x1, i1, g1, e1, x10, x11, _, hi1⟩ := below_ex l i h 256 hl hi (by omega)
   obtain ⟨x2, i2, g2, e2, x20, x21, _, hi2⟩ := below_ex l i1 g1 256 hl hi1 (by omega)
   obtain ⟨y, i3, g3, e3, y0, y1, hi3⟩ := pick5_ex l i2 g2 x1 x2 hl hi2 ⟨x10, by have := x11 (by omega); omega⟩ ⟨x20, by have := x21 (by omega); omega⟩
   obtain ⟨r, i', h', hr1, hi', hv⟩ := ih (j + 1) (row ++ [y]) i3 g3 (by omega) (by omega) hi3 (by simp [hr]) (fun x hx => by
    rcases List.mem_append.mp hx with hx | hx
    ·exact hb x hx
    ·obtain rfl := List.mem_singleton.mp hx
     exact ⟨y0, y1⟩) out c ho hc
   refine ⟨r, i', h', hr1, hi', fun v hw => Ev.step (fun k => ?_) (hv v hw)⟩
   simp only [spec_l06Square.l1]
   rw [if_pos (by omega), e1, Option.bind_some, e2, Option.bind_some, e3, Option.bind_some, if_pos (by omega), wsucc (by omega)]
 have outer : ∀ d (c : Nat) (out : List (List Int)) (i h : Int), n - c = d → c ≤ n → 0 ≤ i → out.length = c → (∀ r ∈ out, byteRow n r) →
   ∃ m i' h', Ev (fun k => spec_l06Square.l0 k (n : Int) out (c : Int) l i h) (m, i', h') ∧ 0 ≤ i' ∧ m.length = n ∧ ∀ r ∈ m, byteRow n r := by
  intro d
  induction d with
  | zero =>
   intro c out i h hd hc hi ho hb
   refine ⟨out, i, h, Ev.step (f := fun _ => some (out, i, h)) (fun k => ?_) (Ev.now _), hi, by omega, hb⟩
   simp only [spec_l06Square.l0]
   rw [if_neg (by omega)]
  | succ d ih =>
   intro c out i h hd hc hi ho hb
   obtain ⟨r, i1, g1, hr, hi1, hv⟩ := inner n 0 [] i h (by omega) (by omega) hi rfl (by simp) out c ho (by omega)
   obtain ⟨m, i', h', hm, hi', hl', hb'⟩ := ih (c + 1) (out ++ [r]) i1 g1 (by omega) (by omega) hi1 (by simp [ho]) (fun x hx => by
    rcases List.mem_append.mp hx with hx | hx
    ·exact hb x hx
    ·obtain rfl := List.mem_singleton.mp hx
     exact hr)
   refine ⟨m, i', h', Ev.step (fun k => ?_) (hv _ hm), hi', hl', hb'⟩
   simp only [spec_l06Square.l0]
   rw [if_pos (by omega)]
   rfl
 exact outer n 0 [] i h (by omega) (by omega) hi rfl (by simp)
theorem byte_square {n : Nat} {m : List (List Int)} (h1 : 1 ≤ n) (h8 : n ≤ 8) (hl : m.length = n) (hb : ∀ r ∈ m, byteRow n r) : ∃ f : Nat → Nat → Nat, m = mk n n f ∧ ∀ i, i < n → ∀ j, j < n → f i j < 256 := by
 have hh : (m.headD []).length = n := by
  cases m with
  | nil => simp at hl; omega
  | cons x m => exact (hb x (by simp)).1
 have ok : okM m = true := by
  unfold okM
  rw [hl, hh]
  have e : in18 n = true := decide_eq_true ⟨h1, h8⟩
  rw [e, Bool.true_and, Bool.true_and, List.all_eq_true]
  intro x hx
  unfold okR
  rw [Bool.and_eq_true]
  refine ⟨decide_eq_true (hb x hx).1, List.all_eq_true.mpr (fun y hy => decide_eq_true ((hb x hx).2 y hy))⟩
 have e := eq_mk ok
 rw [hl, hh] at e
 exact ⟨ent m, e, fun i hi j hj => (rd_ent ok (by omega) (by omega)).2⟩
theorem drawSquares_ev (l : List Int) (hl : l.length ≤ 140737488351232) : ∃ (n : Nat) (f g h : Nat → Nat → Nat), 1 ≤ n ∧ n ≤ 3 ∧ Ev (fun k => spec_DrawSquares.f k l) (mk n n f, mk n n g, mk n n h) ∧
  (∀ i, i < n → ∀ j, j < n → f i j < 256) ∧ (∀ i, i < n → ∀ j, j < n → g i j < 256) ∧ (∀ i, i < n → ∀ j, j < n → h i j < 256) := by
 obtain ⟨s, hn⟩ := new_ev l hl
 obtain ⟨x, i1, s1, e1, x0, x1, _, hi1⟩ := below_ex l 0 s 3 hl (by omega) (by omega)
 obtain ⟨N, rfl⟩ := Int.eq_ofNat_of_zero_le x0
 have x1 := x1 (by omega)
 obtain ⟨a, i2, s2, e2, hi2, la, ba⟩ := square_ev l (1 + N) hl (by omega) (by omega) i1 s1 hi1
 obtain ⟨b, i3, s3, e3, hi3, lb, bb⟩ := square_ev l (1 + N) hl (by omega) (by omega) i2 s2 hi2
 obtain ⟨c, i4, s4, e4, hi4, lc, bc⟩ := square_ev l (1 + N) hl (by omega) (by omega) i3 s3 hi3
 obtain ⟨f, rfl, hf⟩ := byte_square (by omega) (by omega) la ba
 obtain ⟨g, rfl, hg⟩ := byte_square (by omega) (by omega) lb bb
 obtain ⟨h, rfl, hh⟩ := byte_square (by omega) (by omega) lc bc
 refine ⟨1 + N, f, g, h, by omega, by omega, ?_, hf, hg, hh⟩
 have w : wrap64 (1 + (N : Int)) = ((1 + N : Nat) : Int) := by rw [w64 (by omega) (by omega)]; rfl
 unfold spec_DrawSquares.f
 refine Ev.bind hn (Ev.some_bind e1 ?_)
 simp only [w]
 exact Ev.bind e2 (Ev.bind e3 (Ev.bind e4 (Ev.now _)))

/-! ### units that are drawn -/
theorem drawUnits_ev (l : List Int) (hl : l.length ≤ 140737488351232) : ∃ (s k N : Nat) (u : List ByteArray), (s = 1 ∧ k = 2 ∨ s = 2 ∧ k = 3 ∨ s = 3 ∧ k = 4) ∧ N ≤ 8 ∧ Ev (fun q => spec_DrawUnits.f q l) ((s : Int), u) ∧ u.length = k ∧ ∀ x ∈ u, x.size = N := by
 obtain ⟨h, hn⟩ := new_ev l hl
 obtain ⟨x, i1, h1, e1, x0, x1, _, hi1⟩ := below_ex l 0 h 3 hl (by omega) (by omega)
 obtain ⟨S, rfl⟩ := Int.eq_ofNat_of_zero_le x0
 have x1 := x1 (by omega)
 obtain ⟨y, i2, h2, e2, y0, y1, _, hi2⟩ := below_ex l i1 h1 9 hl hi1 (by omega)
 obtain ⟨N, rfl⟩ := Int.eq_ofNat_of_zero_le y0
 have y1 := y1 (by omega)
 have key : ∀ (s : Int) (k : Nat), k ≤ 4 → ∀ d (j : Nat) (acc : List ByteArray) (i h : Int), j ≤ k → k - j = d → acc.length = j → 0 ≤ i → (∀ x ∈ acc, x.size = N) →
   ∃ u, Ev (fun q => spec_DrawUnits.l0 q s (k : Int) (N : Int) acc (j : Int) l i h) (s, u) ∧ u.length = k ∧ ∀ x ∈ u, x.size = N := by
  intro s k hk d
  induction d with
  | zero =>
   intro j acc i h hj hd ha hi hs
   refine ⟨acc, Ev.step (f := fun _ => some (s, acc)) (fun q => ?_) (Ev.now _), by omega, hs⟩
   simp only [spec_DrawUnits.l0]
   rw [if_neg (by omega)]
  | succ d ih =>
   intro j acc i h hj hd ha hi hs
   obtain ⟨t, i3, h3, e3, z, hi3⟩ := text_ev l i h (N : Int) hl hi (by omega)
   obtain ⟨u, hu, hl', hs'⟩ := ih (j + 1) (acc ++ [t]) i3 h3 (by omega) (by omega) (by simp [ha]) hi3 (fun x hx => by
    rcases List.mem_append.mp hx with hx | hx
    ·exact hs x hx
    ·obtain rfl := List.mem_singleton.mp hx
     rw [z]
     rfl)
   refine ⟨u, Ev.step (f := fun q => (spec_l01Text.f q l i h (N : Int)).bind fun bt => if acc.length < 8796093022208 then spec_DrawUnits.l0 q s (k : Int) (N : Int) (acc ++ [bt.1]) ((j + 1 : Nat) : Int) l bt.2.1 bt.2.2 else none) (fun q => ?_) (Ev.bind e3 (Ev.pos (by omega) hu)), hl', hs'⟩
   simp only [spec_DrawUnits.l0]
   rw [if_pos (by omega), wsucc (by omega)]
 have w : wrap64 (1 + (S : Int)) = ((1 + S : Nat) : Int) := by rw [w64 (by omega) (by omega)]; rfl
 have go : ∀ (k m : Nat), k ≤ 4 → spec_SchemaOf.f ((1 + S : Nat) : Int) = some ((k : Int), (m : Int), true) → ∃ u, Ev (fun q => spec_DrawUnits.f q l) (((1 + S : Nat) : Int), u) ∧ u.length = k ∧ ∀ x ∈ u, x.size = N := by
  intro k m hk hs
  obtain ⟨u, hu, a, b⟩ := key ((1 + S : Nat) : Int) k hk k 0 [] i2 h2 (by omega) (by omega) rfl hi2 (by simp)
  refine ⟨u, ?_, a, b⟩
  unfold spec_DrawUnits.f
  refine Ev.bind hn (Ev.some_bind e1 ?_)
  simp only [w]
  exact Ev.some_bind hs (Ev.some_bind e2 hu)
 have hS : S = 0 ∨ S = 1 ∨ S = 2 := by omega
 rcases hS with rfl | rfl | rfl
 ·obtain ⟨u, a, b, c⟩ := go 2 1 (by omega) rfl
  exact ⟨1, 2, N, u, Or.inl ⟨rfl, rfl⟩, by omega, a, b, c⟩
 ·obtain ⟨u, a, b, c⟩ := go 3 2 (by omega) rfl
  exact ⟨2, 3, N, u, Or.inr (Or.inl ⟨rfl, rfl⟩), by omega, a, b, c⟩
 ·obtain ⟨u, a, b, c⟩ := go 4 2 (by omega) rfl
  exact ⟨3, 4, N, u, Or.inr (Or.inr ⟨rfl, rfl⟩), by omega, a, b, c⟩

/-! ### inverses by rows -/
def bytesM (n : Nat) (A : Nat → Nat → Nat) : Prop := ∀ i, i < n → ∀ j, j < n → A i j < 256
def eqM (n : Nat) (X Y : Nat → Nat → Nat) : Prop := ∀ i, i < n → ∀ j, j < n → X i j = Y i j
def mulF (n : Nat) (X Y : Nat → Nat → Nat) : Nat → Nat → Nat := fun i j => xs n (fun k => Gf.mul (X i k) (Y k j))
theorem eqM.symm {n : Nat} {X Y : Nat → Nat → Nat} (h : eqM n X Y) : eqM n Y X := fun i hi j hj => (h i hi j hj).symm
theorem eqM.trans {n : Nat} {X Y Z : Nat → Nat → Nat} (h : eqM n X Y) (k : eqM n Y Z) : eqM n X Z := fun i hi j hj => (h i hi j hj).trans (k i hi j hj)
theorem mulF_bytes {n : Nat} {X Y : Nat → Nat → Nat} (hX : bytesM n X) : bytesM n (mulF n X Y) := fun i hi j _ => mul_lt_of (hX i hi)
theorem mulF_congr {n : Nat} {X X' Y Y' : Nat → Nat → Nat} (h : eqM n X X') (k : eqM n Y Y') : eqM n (mulF n X Y) (mulF n X' Y') := fun i hi j hj => xs_congr (fun l hl => by rw [h i hi l hl, k l hl j hj])
theorem mulF_assoc {n : Nat} {X Y Z : Nat → Nat → Nat} (hX : bytesM n X) (hY : bytesM n Y) (hZ : bytesM n Z) : eqM n (mulF n (mulF n X Y) Z) (mulF n X (mulF n Y Z)) := by
 intro i hi j hj
 unfold mulF
 have e1 : xs n (fun k => Gf.mul (xs n (fun l => Gf.mul (X i l) (Y l k))) (Z k j)) = xs n (fun k => xs n (fun l => Gf.mul (X i l) (Gf.mul (Y l k) (Z k j)))) :=
  xs_congr (fun k hk => by
   rw [xs_mul _ (fun l hl => Gf.mul_lt _ (hX i hi l hl))]
   exact xs_congr (fun l hl => Gf.mul_assoc (hX i hi l hl) (hY l hl k hk) (hZ k hk j hj)))
 rw [e1, xs_swap]
 exact xs_congr (fun l hl => (mul_xs _ _ _).symm)
theorem one_mulF {n : Nat} {Y : Nat → Nat → Nat} (hY : bytesM n Y) : eqM n (mulF n idf Y) Y := by
 intro i hi j hj
 unfold mulF
 have e : xs n (fun k => Gf.mul (idf i k) (Y k j)) = xs n (fun k => if k = i then Y k j else 0) := xs_congr (fun k hk => by
  unfold idf
  by_cases h : k = i
  ·subst h
   rw [if_pos rfl, if_pos rfl, Gf.mul_one_left (hY k hk j hj)]
  ·rw [if_neg h, if_neg (fun e => h e.symm), Gf.mul_zero_left])
 rw [e, xs_one (fun k => Y k j) hi]
theorem mulF_one {n : Nat} {X : Nat → Nat → Nat} : eqM n (mulF n X idf) X := by
 intro i hi j hj
 unfold mulF
 have e : xs n (fun k => Gf.mul (X i k) (idf k j)) = xs n (fun k => if k = j then X i k else 0) := xs_congr (fun k hk => by
  unfold idf
  by_cases h : k = j
  ·rw [if_pos h, if_pos h, Gf.mul_one_right]
  ·rw [if_neg h, if_neg h, Gf.mul_zero_right])
 rw [e, xs_one (fun k => X i k) hj]
def findP (A : Nat → Nat → Nat) (c : Nat) : Nat → Nat → Option Nat
 | 0, _ => none
 | d + 1, p => if A p c = 0 then findP A c d (p + 1) else some p
def swapM (p c : Nat) (A : Nat → Nat → Nat) : Nat → Nat → Nat := fun i j => if i = c then A p j else if i = p then A c j else A i j
def scaleM (c v : Nat) (A : Nat → Nat → Nat) : Nat → Nat → Nat := fun i j => if i = c then Gf.mul v (A c j) else A i j
def elimM (c : Nat) (T : Nat → Nat) (A : Nat → Nat → Nat) : Nat → Nat → Nat := fun i j => if i = c then A i j else A i j ^^^ Gf.mul (T i) (A c j)
def gjF (p c v : Nat) (T : Nat → Nat) (X : Nat → Nat → Nat) : Nat → Nat → Nat := elimM c T (scaleM c v (swapM p c X))
def gjV (p c : Nat) (A : Nat → Nat → Nat) : Nat := Gf.pow (A p c) 254
def gjT (p c : Nat) (A : Nat → Nat → Nat) : Nat → Nat := fun i => scaleM c (gjV p c A) (swapM p c A) i c
def gjGo (n : Nat) : Nat → Nat → (Nat → Nat → Nat) → (Nat → Nat → Nat) → Option (Nat → Nat → Nat)
 | 0, _, _, B => some B
 | d + 1, c, A, B => match findP A c (n - c) c with
  | none => none
  | some p => gjGo n d (c + 1) (gjF p c (gjV p c A) (gjT p c A) A) (gjF p c (gjV p c A) (gjT p c A) B)
theorem findP_some {A : Nat → Nat → Nat} {c : Nat} : ∀ {d p q : Nat}, findP A c d p = some q → p ≤ q ∧ q < p + d ∧ A q c ≠ 0
 | 0, _, _, h => by simp [findP] at h
 | d + 1, p, q, h => by
  unfold findP at h
  by_cases e : A p c = 0
  ·rw [if_pos e] at h
   obtain ⟨h1, h2, h3⟩ := findP_some h
   exact ⟨by omega, by omega, h3⟩
  ·rw [if_neg e] at h
   injection h with h
   subst h
   exact ⟨Nat.le_refl _, by omega, e⟩
/-- What a step does to rows. -/
structure RowOp (n : Nat) (f : (Nat → Nat → Nat) → (Nat → Nat → Nat)) : Prop where
 bytes : ∀ X, bytesM n X → bytesM n (f X)
 comm : ∀ X Y, bytesM n X → bytesM n Y → eqM n (mulF n (f X) Y) (f (mulF n X Y))
 congr : ∀ X Y, eqM n X Y → eqM n (f X) (f Y)
theorem RowOp.comp {n : Nat} {f g : (Nat → Nat → Nat) → (Nat → Nat → Nat)} (hf : RowOp n f) (hg : RowOp n g) : RowOp n (fun X => g (f X)) :=
 ⟨fun X h => hg.bytes _ (hf.bytes X h), fun X Y hX hY => (hg.comm _ Y (hf.bytes X hX) hY).trans (hg.congr _ _ (hf.comm X Y hX hY)), fun X Y h => hg.congr _ _ (hf.congr X Y h)⟩
theorem swap_op {n p c : Nat} (hp : p < n) (hc : c < n) : RowOp n (swapM p c) := by
 refine ⟨fun X h i hi j hj => ?_, fun X Y hX hY i hi j hj => ?_, fun X Y h i hi j hj => ?_⟩
 ·unfold swapM
  split
  ·exact h p hp j hj
  ·split
   ·exact h c hc j hj
   ·exact h i hi j hj
 ·unfold swapM mulF
  by_cases h1 : i = c
  ·simp only [if_pos h1]
  ·simp only [if_neg h1]
   by_cases h2 : i = p
   ·simp only [if_pos h2]
   ·simp only [if_neg h2]
 ·unfold swapM
  rw [h p hp j hj, h c hc j hj, h i hi j hj]
theorem scale_op {n c v : Nat} (hc : c < n) (hv : v < 256) : RowOp n (scaleM c v) := by
 refine ⟨fun X h i hi j hj => ?_, fun X Y hX hY i hi j hj => ?_, fun X Y h i hi j hj => ?_⟩
 ·unfold scaleM
  split
  ·exact Gf.mul_lt _ hv
  ·exact h i hi j hj
 ·unfold scaleM mulF
  by_cases h1 : i = c
  ·simp only [if_pos h1]
   rw [mul_xs]
   exact xs_congr (fun k hk => Gf.mul_assoc hv (hX c hc k hk) (hY k hk j hj))
  ·simp only [if_neg h1]
 ·unfold scaleM
  rw [h c hc j hj, h i hi j hj]
theorem elim_op {n c : Nat} {T : Nat → Nat} (hc : c < n) (hT : ∀ i, i < n → T i < 256) : RowOp n (elimM c T) := by
 refine ⟨fun X h i hi j hj => ?_, fun X Y hX hY i hi j hj => ?_, fun X Y h i hi j hj => ?_⟩
 ·unfold elimM
  split
  ·exact h i hi j hj
  ·exact Gf.xor_lt (n := 8) (h i hi j hj) (Gf.mul_lt _ (hT i hi))
 ·unfold elimM mulF
  by_cases h1 : i = c
  ·simp only [if_pos h1]
  ·simp only [if_neg h1]
   rw [mul_xs, ← xs_xor]
   refine xs_congr (fun k hk => ?_)
   rw [Gf.mul_xor_left _ (hX i hi k hk) (Gf.mul_lt _ (hT i hi)), Gf.mul_assoc (hT i hi) (hX c hc k hk) (hY k hk j hj)]
 ·unfold elimM
  rw [h c hc j hj, h i hi j hj]
theorem xor_again (a b : Nat) : a ^^^ b ^^^ b = a := by rw [Nat.xor_assoc, Nat.xor_self, Nat.xor_zero]
/-- A step may be undone. -/
theorem gjF_undo {n p c v u : Nat} {T : Nat → Nat} (hp : p < n) (hc : c < n) (hv : v < 256) (hu : u < 256) (h1 : Gf.mul u v = 1) (hT : ∀ i, i < n → T i < 256) :
  RowOp n (gjF p c v T) ∧ ∃ g, RowOp n g ∧ ∀ X, bytesM n X → eqM n (g (gjF p c v T X)) X := by
 refine ⟨(swap_op hp hc).comp ((scale_op hc hv).comp (elim_op hc hT)), fun X => swapM p c (scaleM c u (elimM c T X)), (elim_op hc hT).comp ((scale_op hc hu).comp (swap_op hp hc)), fun X hX => ?_⟩
 have e1 : eqM n (elimM c T (gjF p c v T X)) (scaleM c v (swapM p c X)) := fun i hi j hj => by
  unfold gjF elimM
  by_cases h : i = c
  ·simp only [if_pos h]
  ·simp only [if_neg h, if_true]
   exact xor_again _ _
 have b1 := (swap_op hp hc).bytes X hX
 have e2 : eqM n (scaleM c u (scaleM c v (swapM p c X))) (swapM p c X) := fun i hi j hj => by
  unfold scaleM
  by_cases h : i = c
  ·subst h
   simp only [if_true]
   rw [← Gf.mul_assoc hu hv (b1 i hi j hj), h1, Gf.mul_one_left (b1 i hi j hj)]
  ·simp only [if_neg h]
 have e3 : eqM n (swapM p c (swapM p c X)) X := fun i hi j hj => by
  unfold swapM
  by_cases h : i = c
  ·subst h
   by_cases h2 : p = i
   ·subst h2
    simp only [if_true]
   ·simp only [if_true, if_neg h2]
  ·simp only [if_neg h]
   by_cases h2 : i = p
   ·subst h2
    simp only [if_true]
   ·simp only [if_neg h2]
 exact ((swap_op hp hc).congr _ _ (((scale_op hc hu).congr _ _ e1).trans e2)).trans e3
theorem gj_unit {n p c : Nat} {A : Nat → Nat → Nat} (hA : bytesM n A) (hc : c < n) (hcp : c ≤ p) (hp : p < n) (h0 : A p c ≠ 0) (hU : ∀ j, j < c → ∀ i, i < n → A i j = idf i j) :
  ∀ j, j < c + 1 → ∀ i, i < n → gjF p c (gjV p c A) (gjT p c A) A i j = idf i j := by
 have hv : Gf.mul (gjV p c A) (A p c) = 1 := by
  unfold gjV
  rw [Gf.mul_comm (Gf.pow_lt (hA p hp c hc) 254) (hA p hp c hc)]
  exact Gf.mul_inv (hA p hp c hc) h0
 have s1 : ∀ j, j < c → ∀ i, i < n → swapM p c A i j = idf i j := by
  intro j hj i hi
  unfold swapM
  by_cases h : i = c
  ·subst h
   rw [if_pos rfl, hU j hj p hp]
   unfold idf
   rw [if_neg (by omega), if_neg (by omega)]
  ·rw [if_neg h]
   by_cases h2 : i = p
   ·subst h2
    rw [if_pos rfl, hU j hj c hc]
    unfold idf
    rw [if_neg (by omega), if_neg (by omega)]
   ·rw [if_neg h2]
    exact hU j hj i hi
 have s2 : ∀ j, j < c → ∀ i, i < n → scaleM c (gjV p c A) (swapM p c A) i j = idf i j := by
  intro j hj i hi
  unfold scaleM
  by_cases h : i = c
  ·subst h
   rw [if_pos rfl, s1 j hj i hi]
   unfold idf
   rw [if_neg (by omega), Gf.mul_zero_right]
  ·rw [if_neg h]
   exact s1 j hj i hi
 have s3 : scaleM c (gjV p c A) (swapM p c A) c c = 1 := by
  unfold scaleM swapM
  rw [if_pos rfl, if_pos rfl]
  exact hv
 intro j hj i hi
 show elimM c (gjT p c A) (scaleM c (gjV p c A) (swapM p c A)) i j = idf i j
 unfold elimM
 by_cases hjc : j = c
 ·subst hjc
  by_cases h : i = j
  ·subst h
   rw [if_pos rfl, s3]
   unfold idf
   rw [if_pos rfl]
  ·rw [if_neg h, s3, Gf.mul_one_right]
   show gjT p j A i ^^^ gjT p j A i = _
   rw [Nat.xor_self]
   unfold idf
   rw [if_neg h]
 ·have hj2 : j < c := by omega
  by_cases h : i = c
  ·rw [if_pos h]
   exact s2 j hj2 i hi
  ·rw [if_neg h, s2 j hj2 i hi, s2 j hj2 c hc]
   have z : idf c j = 0 := by
    unfold idf
    rw [if_neg (by omega)]
   rw [z, Gf.mul_zero_right, Nat.xor_zero]
theorem gjGo_ok {n : Nat} {M : Nat → Nat → Nat} (hM : bytesM n M) : ∀ (d c : Nat) (A B R B' : Nat → Nat → Nat), d + c = n → bytesM n A → bytesM n B → bytesM n R → eqM n (mulF n B M) A → (∀ j, j < c → ∀ i, i < n → A i j = idf i j) →
  eqM n (mulF n R A) M → eqM n (mulF n R B) idf → gjGo n d c A B = some B' → bytesM n B' ∧ eqM n (mulF n B' M) idf ∧ eqM n (mulF n M B') idf := by
 intro d
 induction d with
 | zero =>
  intro c A B R B' hd hA hB hR h1 h2 h3 h4 h
  simp only [gjGo, Option.some.injEq] at h
  subst h
  have e : eqM n A idf := fun i hi j hj => h2 j (by omega) i hi
  refine ⟨hB, h1.trans e, ?_⟩
  have r : eqM n R M := ((mulF_one (X := R)).symm.trans (mulF_congr (fun _ _ _ _ => rfl) e.symm)).trans h3
  exact (mulF_congr r.symm (fun _ _ _ _ => rfl)).trans h4
 | succ d ih =>
  intro c A B R B' hd hA hB hR h1 h2 h3 h4 h
  unfold gjGo at h
  cases hp : findP A c (n - c) c with
  | none => rw [hp] at h; simp at h
  | some p =>
   rw [hp] at h
   obtain ⟨p1, p2, p3⟩ := findP_some hp
   have hc : c < n := by omega
   have hpn : p < n := by omega
   have hv : gjV p c A < 256 := Gf.pow_lt (hA p hpn c hc) 254
   have hT : ∀ i, i < n → gjT p c A i < 256 := fun i hi => (scale_op hc hv).bytes _ ((swap_op hpn hc).bytes _ hA) i hi c hc
   obtain ⟨hf, g, hg, hu⟩ := gjF_undo (n := n) (p := p) (c := c) (v := gjV p c A) (u := A p c) (T := gjT p c A) hpn hc hv (hA p hpn c hc) (Gf.mul_inv (hA p hpn c hc) p3) hT
   have hid : bytesM n idf := fun i _ j _ => idf_lt i j
   have hG : bytesM n (g idf) := hg.bytes _ hid
   have key : ∀ X, bytesM n X → eqM n (mulF n (mulF n R (g idf)) (gjF p c (gjV p c A) (gjT p c A) X)) (mulF n R X) := by
    intro X hX
    have hfX := hf.bytes X hX
    refine (mulF_assoc hR hG hfX).trans (mulF_congr (fun _ _ _ _ => rfl) ?_)
    refine (hg.comm idf _ hid hfX).trans ((hg.congr _ _ (one_mulF hfX)).trans (hu X hX))
   refine ih (c + 1) _ _ (mulF n R (g idf)) B' (by omega) (hf.bytes A hA) (hf.bytes B hB) (mulF_bytes hR) ?_ (gj_unit hA hc p1 hpn p3 h2) ((key A hA).trans h3) ((key B hB).trans h4) h
   exact (hf.comm B M hB hM).trans (hf.congr _ _ h1)
def gj (n : Nat) (M : Nat → Nat → Nat) : Option (Nat → Nat → Nat) := gjGo n n 0 M idf
theorem gj_ok {n : Nat} {M B : Nat → Nat → Nat} (hM : bytesM n M) (h : gj n M = some B) : bytesM n B ∧ eqM n (mulF n B M) idf ∧ eqM n (mulF n M B) idf := by
 have hid : bytesM n idf := fun i _ j _ => idf_lt i j
 exact gjGo_ok hM n 0 M idf idf B (by omega) hM hid hid (one_mulF hM) (fun j hj => by omega) (one_mulF hM) (one_mulF hid) h

/-! ### rows of a square matrix -/
def rowN (n : Nat) (g : Nat → Nat) : List Int := (List.range n).map fun j => ((g j : Nat) : Int)
theorem rowN_length (n : Nat) (g : Nat → Nat) : (rowN n g).length = n := by simp [rowN]
theorem rowN_congr {n : Nat} {g h : Nat → Nat} (H : ∀ j, j < n → g j = h j) : rowN n g = rowN n h := by
 unfold rowN
 exact List.map_congr_left (fun j hj => by rw [H j (List.mem_range.mp hj)])
theorem rowN_succ (n : Nat) (g : Nat → Nat) : rowN (n + 1) g = rowN n g ++ [((g n : Nat) : Int)] := range_map_succ _ n
theorem rd_rowN {n : Nat} (g : Nat → Nat) {j : Nat} (hj : j < n) : rd (rowN n g) (j : Int) = ((g j : Nat) : Int) := by
 unfold rd rowN
 rw [Int.toNat_natCast, List.getD_eq_getElem?_getD, List.getElem?_map, List.getElem?_range hj]
 rfl
theorem rdL_mk {n : Nat} (A : Nat → Nat → Nat) {i : Nat} (hi : i < n) : rd_L2 (mk n n A) (i : Int) = rowN n (A i) := by
 unfold rd_L2
 rw [Int.toNat_natCast]
 exact mk_get n n A hi
theorem mk_at (r c : Nat) (f : Nat → Nat → Nat) {i : Nat} (hi : i < r) {h : i < (mk r c f).length} : (mk r c f)[i] = (List.range c).map fun j => ((f i j : Nat) : Int) := by
 have e := mk_get r c f hi
 rw [List.getD_eq_getElem?_getD, List.getElem?_eq_getElem h] at e
 exact e
theorem mk_set {n : Nat} (A : Nat → Nat → Nat) (g : Nat → Nat) {c : Nat} (_hc : c < n) : (mk n n A).set c (rowN n g) = mk n n (fun i j => if i = c then g j else A i j) := by
 refine List.ext_getElem (by rw [List.length_set, mk_length, mk_length]) (fun i h1 h2 => ?_)
 have hi : i < n := by rwa [mk_length] at h2
 rw [List.getElem_set, mk_at _ _ _ hi, mk_at _ _ _ hi]
 by_cases h : c = i
 ·subst h
  rw [if_pos rfl]
  simp only [if_true]
  rfl
 ·rw [if_neg h]
  refine List.map_congr_left (fun j _ => ?_)
  rw [if_neg (fun e => h e.symm)]
theorem swap_list {n : Nat} (A : Nat → Nat → Nat) {p c : Nat} (hp : p < n) (hc : c < n) : ((mk n n A).set p (rowN n (A c))).set c (rowN n (A p)) = mk n n (swapM p c A) := by
 rw [mk_set A (A c) hp, mk_set _ (A p) hc]
 rfl
theorem scale_list {n : Nat} (A : Nat → Nat → Nat) {c v : Nat} (hc : c < n) : (mk n n A).set c (rowN n (fun j => Gf.mul v (A c j))) = mk n n (scaleM c v A) := by
 rw [mk_set _ _ hc]
 rfl
def gjRes (n : Nat) : Option (Nat → Nat → Nat) → List (List Int) × Bool
 | none => ([], false)
 | some B => (mk n n B, true)
def invR (m : List (List Int)) : List (List Int) × Bool := if okM m = true ∧ m.length = (m.headD []).length then gjRes m.length (gj m.length (ent m)) else ([], false)
def partM (c : Nat) (T : Nat → Nat) (i0 : Nat) (X : Nat → Nat → Nat) : Nat → Nat → Nat := fun i j => if i < i0 ∧ i ≠ c then X i j ^^^ Gf.mul (T i) (X c j) else X i j
theorem part_zero (n c : Nat) (T : Nat → Nat) (X : Nat → Nat → Nat) : mk n n (partM c T 0 X) = mk n n X := mk_congr (fun i _ j _ => by unfold partM; rw [if_neg (by omega)])
theorem part_all (n c : Nat) (T : Nat → Nat) (X : Nat → Nat → Nat) : mk n n (partM c T n X) = mk n n (elimM c T X) := mk_congr (fun i hi j _ => by
 unfold partM elimM
 by_cases h : i = c
 ·rw [if_neg (fun e => e.2 h), if_pos h]
 ·rw [if_pos ⟨hi, h⟩, if_neg h])
theorem part_same (n c : Nat) (T : Nat → Nat) (i0 : Nat) (X : Nat → Nat → Nat) (h : i0 = c ∨ T i0 = 0) : mk n n (partM c T (i0 + 1) X) = mk n n (partM c T i0 X) := mk_congr (fun i _ j _ => by
 unfold partM
 by_cases e : i = i0
 ·subst e
  rw [if_neg (show ¬ (i < i ∧ i ≠ c) from fun z => absurd z.1 (Nat.lt_irrefl _))]
  rcases h with h | h
  ·rw [if_neg (fun z => z.2 h)]
  ·by_cases hc : i ≠ c
   ·rw [if_pos ⟨by omega, hc⟩, h, Gf.mul_zero_left, Nat.xor_zero]
   ·rw [if_neg (fun z => hc z.2)]
 ·by_cases hc : i < i0 ∧ i ≠ c
  ·rw [if_pos hc, if_pos ⟨by omega, hc.2⟩]
  ·rw [if_neg hc, if_neg (fun z => hc ⟨by omega, z.2⟩)])
theorem part_next {n c : Nat} (T : Nat → Nat) {i0 : Nat} (X : Nat → Nat → Nat) (hi : i0 < n) (h : i0 ≠ c) : (mk n n (partM c T i0 X)).set i0 (rowN n (fun j => X i0 j ^^^ Gf.mul (T i0) (X c j))) = mk n n (partM c T (i0 + 1) X) := by
 rw [mk_set _ _ hi]
 refine mk_congr (fun i _ j _ => ?_)
 unfold partM
 by_cases e : i = i0
 ·subst e
  rw [if_pos rfl, if_pos ⟨by omega, h⟩]
 ·rw [if_neg e]
  by_cases hc : i < i0 ∧ i ≠ c
  ·rw [if_pos hc, if_pos ⟨by omega, hc.2⟩]
  ·rw [if_neg hc, if_neg (fun z => hc ⟨by omega, z.2⟩)]
theorem part_row {c : Nat} (T : Nat → Nat) {i0 i : Nat} (X : Nat → Nat → Nat) (h : ¬ (i < i0 ∧ i ≠ c)) : partM c T i0 X i = X i := funext fun j => by
 unfold partM
 rw [if_neg h]
theorem ginv_nat {x : Nat} (h : x < 256) (h0 : x ≠ 0) : ginv (x : Int) = ((Gf.pow x 254 : Nat) : Int) := by
 unfold ginv
 rw [modb_nat h, if_neg h0]

/-! ### spec.InvM -/
theorem times_ev {n v : Nat} {g : Nat → Nat} (hn : n ≤ 8) (hv : v < 256) (hg : ∀ j, j < n → g j < 256) : Ev (fun k => spec_l06Times.f k (rowN n g) (v : Int)) (rowN n (fun j => Gf.mul v (g j))) := by
 have key : ∀ d j : Nat, j ≤ n → n - j = d → Ev (fun k => spec_l06Times.l0 k (rowN n g) (v : Int) (rowN j (fun j => Gf.mul v (g j))) (j : Int)) (rowN n (fun j => Gf.mul v (g j))) := by
  intro d
  induction d with
  | zero =>
   intro j hj hd
   obtain rfl : j = n := by omega
   refine Ev.step (f := fun _ => some (rowN j (fun j => Gf.mul v (g j)))) (fun k => ?_) (Ev.now _)
   simp only [spec_l06Times.l0]
   rw [if_neg (by rw [rowN_length]; omega)]
  | succ d ih =>
   intro j hj hd
   have z := ih (j + 1) (by omega) (by omega)
   rw [rowN_succ] at z
   have hx := hg j (by omega)
   have e := spec_MulG_ev (a := (v : Int)) (b := ((g j : Nat) : Int)) (by omega) (by omega) (by omega) (by omega)
   rw [gmul_nn hv hx] at e
   refine Ev.step (f := fun k => (spec_MulG.f k (v : Int) ((g j : Nat) : Int)).bind fun t => spec_l06Times.l0 k (rowN n g) (v : Int) (rowN j (fun j => Gf.mul v (g j)) ++ [t]) ((j + 1 : Nat) : Int)) (fun k => ?_) (Ev.bind e z)
   simp only [spec_l06Times.l0]
   rw [if_pos (by rw [rowN_length]; omega), if_pos (by omega), rd_rowN g (by omega)]
   refine congrArg (Option.bind _) (funext fun t => ?_)
   rw [if_pos (by rw [rowN_length]; omega), wsucc (by omega)]
 exact key n 0 (by omega) (by omega)
theorem take_ev {n t : Nat} {a b : Nat → Nat} (hn : n ≤ 8) (ht : t < 256) (ha : ∀ j, j < n → a j < 256) (hb : ∀ j, j < n → b j < 256) : Ev (fun k => spec_l06Row.f k (rowN n a) (rowN n b) (t : Int)) (rowN n (fun j => a j ^^^ Gf.mul t (b j))) := by
 have key : ∀ d j : Nat, j ≤ n → n - j = d → Ev (fun k => spec_l06Row.l0 k (rowN n a) (rowN n b) (t : Int) (rowN j (fun j => a j ^^^ Gf.mul t (b j))) (j : Int)) (rowN n (fun j => a j ^^^ Gf.mul t (b j))) := by
  intro d
  induction d with
  | zero =>
   intro j hj hd
   obtain rfl : j = n := by omega
   refine Ev.step (f := fun _ => some (rowN j (fun j => a j ^^^ Gf.mul t (b j)))) (fun k => ?_) (Ev.now _)
   simp only [spec_l06Row.l0]
   rw [if_neg (by rw [rowN_length]; omega)]
  | succ d ih =>
   intro j hj hd
   have z := ih (j + 1) (by omega) (by omega)
   rw [rowN_succ] at z
   have hx := hb j (by omega)
   have hy := ha j (by omega)
   have hm := Gf.mul_lt (b j) ht
   have e := spec_MulG_ev (a := (t : Int)) (b := ((b j : Nat) : Int)) (by omega) (by omega) (by omega) (by omega)
   rw [gmul_nn ht hx] at e
   refine Ev.step (f := fun k => (spec_MulG.f k (t : Int) ((b j : Nat) : Int)).bind fun s => spec_l06Row.l0 k (rowN n a) (rowN n b) (t : Int) (rowN j (fun j => a j ^^^ Gf.mul t (b j)) ++ [Go.bits .xor .i64 ((a j : Nat) : Int) s]) ((j + 1 : Nat) : Int)) (fun k => ?_) (Ev.bind e ?_)
   ·simp only [spec_l06Row.l0]
    rw [if_pos (by rw [rowN_length]; omega), if_pos (by omega), if_pos (by rw [rowN_length]; omega), rd_rowN a (by omega), rd_rowN b (by omega)]
    refine congrArg (Option.bind _) (funext fun s => ?_)
    rw [if_pos (by rw [rowN_length]; omega), wsucc (by omega)]
   ·rw [bits_xor64 (by omega) (by omega)]
    exact z
 exact key n 0 (by omega) (by omega)
theorem spec_elim_ev {n c : Nat} {A B : Nat → Nat → Nat} {v : List (List Int) × Bool} (hn : n ≤ 8) (hc : c < n) (hA : bytesM n A) (hB : bytesM n B)
  (h : Ev (fun k => spec_InvM.l1 k (n : Int) (mk n n (elimM c (fun i => A i c) A)) (mk n n (elimM c (fun i => A i c) B)) ((c + 1 : Nat) : Int)) v) :
  ∀ d i0 : Nat, i0 ≤ n → n - i0 = d → Ev (fun k => spec_InvM.l3 k (n : Int) (mk n n (partM c (fun i => A i c) i0 A)) (mk n n (partM c (fun i => A i c) i0 B)) (c : Int) (i0 : Int)) v := by
 intro d
 induction d with
 | zero =>
  intro i0 hi hd
  obtain rfl : i0 = n := by omega
  rw [part_all, part_all]
  refine Ev.step (fun k => ?_) h
  simp only [spec_InvM.l3]
  rw [if_neg (by omega), wsucc (by omega)]
 | succ d ih =>
  intro i0 hi hd
  have z := ih (i0 + 1) (by omega) (by omega)
  have same : (i0 = c ∨ A i0 c = 0) → Ev (fun k => spec_InvM.j6 k (n : Int) (mk n n (partM c (fun i => A i c) i0 A)) (mk n n (partM c (fun i => A i c) i0 B)) (c : Int) (i0 : Int) false) v := by
   intro hs
   rw [part_same n c (fun i => A i c) i0 A hs, part_same n c (fun i => A i c) i0 B hs] at z
   refine Ev.step (fun k => ?_) z
   simp only [spec_InvM.j6, Bool.false_eq_true, if_false]
   rw [wsucc (by omega)]
  by_cases hic : i0 = c
  ·refine Ev.step (fun k => ?_) (same (Or.inl hic))
   simp only [spec_InvM.l3]
   rw [if_pos (by omega), if_pos (by omega)]
  ·have rA : partM c (fun i => A i c) i0 A i0 = A i0 := part_row _ A (fun e => absurd e.1 (Nat.lt_irrefl _))
   have rAc : partM c (fun i => A i c) i0 A c = A c := part_row _ A (fun e => e.2 rfl)
   have rB : partM c (fun i => A i c) i0 B i0 = B i0 := part_row _ B (fun e => absurd e.1 (Nat.lt_irrefl _))
   have rBc : partM c (fun i => A i c) i0 B c = B c := part_row _ B (fun e => e.2 rfl)
   have go : Ev (fun k => spec_InvM.j6 k (n : Int) (mk n n (partM c (fun i => A i c) i0 A)) (mk n n (partM c (fun i => A i c) i0 B)) (c : Int) (i0 : Int) (((A i0 c : Nat) : Int) != 0)) v := by
    by_cases h0 : A i0 c = 0
    ·rw [show (((A i0 c : Nat) : Int) != 0) = false by rw [h0]; rfl]
     exact same (Or.inr h0)
    ·rw [show (((A i0 c : Nat) : Int) != 0) = true from bne_iff_ne.mpr (by omega)]
     have e1 := take_ev (n := n) (t := A i0 c) (a := A i0) (b := A c) hn (hA i0 (by omega) c hc) (hA i0 (by omega)) (hA c hc)
     have e2 := take_ev (n := n) (t := A i0 c) (a := B i0) (b := B c) hn (hA i0 (by omega) c hc) (hB i0 (by omega)) (hB c hc)
     refine Ev.step (f := fun k => (spec_l06Row.f k (rowN n (A i0)) (rowN n (A c)) ((A i0 c : Nat) : Int)).bind fun t => (spec_l06Row.f k (rowN n (B i0)) (rowN n (B c)) ((A i0 c : Nat) : Int)).bind fun s => spec_InvM.l3 k (n : Int) ((mk n n (partM c (fun i => A i c) i0 A)).set i0 t) ((mk n n (partM c (fun i => A i c) i0 B)).set i0 s) (c : Int) ((i0 + 1 : Nat) : Int)) (fun k => ?_) (Ev.bind e1 (Ev.bind e2 ?_))
     ·simp only [spec_InvM.j6, if_true]
      rw [rdL_mk _ (i := i0) (by omega), rdL_mk _ (i := c) hc, rdL_mk _ (i := i0) (by omega), rdL_mk _ (i := c) hc, rA, rAc, rB, rBc, rd_rowN _ hc, mk_length, mk_length, rowN_length]
      rw [if_pos (by omega), if_pos (by omega), if_pos (by omega), if_pos (by omega), if_pos (by omega)]
      refine congrArg (Option.bind _) (funext fun t => ?_)
      rw [if_pos (by omega), if_pos (by omega), wsucc (by omega), Int.toNat_natCast]
     ·rw [part_next (fun i => A i c) A (by omega) hic, part_next (fun i => A i c) B (by omega) hic]
      exact z
   refine Ev.step (fun k => ?_) go
   simp only [spec_InvM.l3]
   rw [if_pos (by omega), if_neg (by omega), rdL_mk _ (i := i0) (by omega), rA, rd_rowN _ hc, mk_length, rowN_length, if_pos (by omega), if_pos (by omega), if_pos (by omega), if_pos (by omega)]
theorem spec_find_ev {n c : Nat} {A : Nat → Nat → Nat} {B : List (List Int)} {v : List (List Int) × Bool} (hn : n ≤ 8) (hc : c < n) :
  ∀ d p : Nat, p ≤ n → n - p = d → Ev (fun k => spec_InvM.j4 k (n : Int) (mk n n A) B (c : Int) ((match findP A c d p with | some q => q | none => n : Nat) : Int)) v → Ev (fun k => spec_InvM.l2 k (n : Int) (mk n n A) B (c : Int) (p : Int)) v := by
 intro d
 induction d with
 | zero =>
  intro p hp hd h
  obtain rfl : p = n := by omega
  refine Ev.step (fun k => ?_) h
  simp only [spec_InvM.l2]
  rw [if_neg (by omega)]
  rfl
 | succ d ih =>
  intro p hp hd h
  by_cases h0 : A p c = 0
  ·have e : findP A c (d + 1) p = findP A c d (p + 1) := by
    rw [findP, if_pos h0]
   rw [e] at h
   refine Ev.step (fun k => ?_) (ih (p + 1) (by omega) (by omega) h)
   simp only [spec_InvM.l2]
   rw [if_pos (by omega), if_pos (by omega), mk_length, if_pos (by omega), if_pos (by omega), rdL_mk _ (by omega), rowN_length, if_pos (by omega), rd_rowN _ hc, if_pos (by omega), wsucc (by omega)]
  ·have e : findP A c (d + 1) p = some p := by
    rw [findP, if_neg h0]
   rw [e] at h
   refine Ev.step (fun k => ?_) h
   simp only [spec_InvM.l2]
   rw [if_pos (by omega), if_pos (by omega), mk_length, if_pos (by omega), if_pos (by omega), rdL_mk _ (by omega), rowN_length, if_pos (by omega), rd_rowN _ hc, if_neg (by omega)]
theorem spec_cols_ev {n : Nat} (hn : n ≤ 8) : ∀ (d c : Nat) (A B : Nat → Nat → Nat), d + c = n → bytesM n A → bytesM n B → Ev (fun k => spec_InvM.l1 k (n : Int) (mk n n A) (mk n n B) (c : Int)) (gjRes n (gjGo n d c A B)) := by
 intro d
 induction d with
 | zero =>
  intro c A B hd hA hB
  refine Ev.step (f := fun _ => some (mk n n B, true)) (fun k => ?_) (Ev.now _)
  simp only [spec_InvM.l1]
  rw [if_neg (by omega)]
 | succ d ih =>
  intro c A B hd hA hB
  have hc : c < n := by omega
  have go : Ev (fun k => spec_InvM.j4 k (n : Int) (mk n n A) (mk n n B) (c : Int) ((match findP A c (n - c) c with | some q => q | none => n : Nat) : Int)) (gjRes n (gjGo n (d + 1) c A B)) := by
   unfold gjGo
   cases hp : findP A c (n - c) c with
   | none =>
    refine Ev.step (f := fun _ => some ([], false)) (fun k => ?_) (Ev.now _)
    simp only [spec_InvM.j4, if_true]
   | some p =>
    obtain ⟨p1, p2, p3⟩ := findP_some hp
    have hpn : p < n := by omega
    have hv : gjV p c A < 256 := Gf.pow_lt (hA p hpn c hc) 254
    have sA := (swap_op hpn hc).bytes _ hA
    have sB := (swap_op hpn hc).bytes _ hB
    have tA := (scale_op hc hv).bytes _ sA
    have tB := (scale_op hc hv).bytes _ sB
    have hT : ∀ i, i < n → gjT p c A i < 256 := fun i hi => tA i hi c hc
    have z := ih (c + 1) (gjF p c (gjV p c A) (gjT p c A) A) (gjF p c (gjV p c A) (gjT p c A) B) (by omega) ((elim_op hc hT).bytes _ tA) ((elim_op hc hT).bytes _ tB)
    have y := spec_elim_ev hn hc tA tB z n 0 (by omega) (by omega)
    rw [part_zero, part_zero] at y
    have pc : swapM p c A c c = A p c := by unfold swapM; rw [if_pos rfl]
    have g := spec_InvG_ev (a := ((A p c : Nat) : Int)) (by have := hA p hpn c hc; omega) (by have := hA p hpn c hc; omega)
    rw [ginv_nat (hA p hpn c hc) p3] at g
    have e1 := times_ev (n := n) (v := gjV p c A) (g := swapM p c A c) hn hv (sA c hc)
    have e2 := times_ev (n := n) (v := gjV p c A) (g := swapM p c B c) hn hv (sB c hc)
    refine Ev.step (f := fun k => (spec_InvG.f k ((A p c : Nat) : Int)).bind fun t => (spec_l06Times.f k (rowN n (swapM p c A c)) t).bind fun r => (spec_l06Times.f k (rowN n (swapM p c B c)) t).bind fun s => spec_InvM.l3 k (n : Int) ((mk n n (swapM p c A)).set c r) ((mk n n (swapM p c B)).set c s) (c : Int) 0) (fun k => ?_) (Ev.bind g (Ev.bind e1 (Ev.bind e2 ?_)))
    ·simp only [spec_InvM.j4]
     rw [if_neg (by omega), if_pos (by omega), mk_length, if_pos (by omega), if_pos (by omega), if_pos (by omega), Option.bind_some, mk_length, if_pos (by omega), if_pos (by omega), Option.bind_some, Int.toNat_natCast, Int.toNat_natCast]
     rw [rdL_mk A hc, rdL_mk A hpn, rdL_mk B hc, rdL_mk B hpn, swap_list A hpn hc, swap_list B hpn hc, rdL_mk _ hc, rdL_mk _ hc, rowN_length, if_pos (by omega), rd_rowN _ hc, pc]
    ·rw [scale_list _ hc, scale_list _ hc]
     exact y
  refine Ev.step (fun k => ?_) (spec_find_ev hn hc (n - c) c (by omega) rfl go)
  simp only [spec_InvM.l1]
  rw [if_pos (by omega)]
theorem spec_InvM_ev (m : List (List Int)) (hm : m.length ≤ 1099511627776) (hr : ∀ r ∈ m, r.length ≤ 1099511627776) : Ev (fun k => spec_InvM.f k m) (invR m) := by
 have em := spec_MatrixOk_ev m (by omega) (fun r h => by have := hr r h; omega)
 have bad : Ev (fun k => spec_InvM.j0 k m true) (([] : List (List Int)), false) := Ev.step (f := fun _ => some ([], false)) (fun k => by simp only [spec_InvM.j0, if_true]) (Ev.now _)
 unfold spec_InvM.f
 refine Ev.bind em ?_
 cases om : okM m with
 | false =>
  rw [show invR m = ([], false) by unfold invR; rw [if_neg (by simp [om])]]
  exact Ev.neg (by simp) bad
 | true =>
  obtain ⟨a1, a2, a3, a4, _⟩ := of_okM om
  refine Ev.pos rfl (Ev.pos (by omega) ?_)
  rw [rdL_zero]
  by_cases hn : m.length = (m.headD []).length
  ·rw [show invR m = gjRes m.length (gj m.length (ent m)) by unfold invR; rw [if_pos ⟨om, hn⟩]]
   rw [show (((m.length : Nat) : Int) != (((m.headD []).length : Nat) : Int)) = false by rw [← hn]; simp]
   have e := eq_mk om
   rw [← hn] at e
   have hb : bytesM m.length (ent m) := fun i hi j hj => (rd_ent om hi (by omega)).2
   have o := spec_OneM_ev ((m.length : Nat) : Int)
   unfold oneR at o
   rw [if_pos (by omega), Int.toNat_natCast] at o
   have last := spec_cols_ev a2 m.length 0 (ent m) idf (by omega) hb (fun i _ j _ => idf_lt i j)
   have L0 : ∀ d i : Nat, i ≤ m.length → m.length - i = d → Ev (fun k => spec_InvM.l0 k m (m.length : Int) ((List.range i).map fun i => rowN m.length (ent m i)) (i : Int)) (gjRes m.length (gj m.length (ent m))) := by
    intro d
    induction d with
    | zero =>
     intro i hi hd
     obtain rfl : i = m.length := by omega
     refine Ev.step (f := fun k => (spec_OneM.f k (m.length : Int)).bind fun t => spec_InvM.l1 k (m.length : Int) (mk m.length m.length (ent m)) t 0) (fun k => ?_) (Ev.bind o last)
     simp only [spec_InvM.l0]
     rw [if_neg (by omega)]
     rfl
    | succ d ih =>
     intro i hi hd
     have z := ih (i + 1) (by omega) (by omega)
     rw [range_map_succ] at z
     have hl := rdL_len om (i := i) (by omega)
     have er : rd_L2 m (i : Int) = rowN m.length (ent m i) := by
      have q := rdL_mk (n := m.length) (ent m) (i := i) (by omega)
      rw [← e] at q
      exact q
     refine Ev.step (fun k => ?_) z
     simp only [spec_InvM.l0]
     rw [if_pos (by omega), Option.bind_some, if_pos (by omega), if_pos (by omega), if_pos (by rw [hl, List.length_nil]; omega), if_pos (by rw [List.length_map, List.length_range]; omega), er, wsucc (by omega), List.nil_append]
   refine Ev.step (fun k => ?_) (L0 m.length 0 (by omega) (by omega))
   simp only [spec_InvM.j0, Bool.false_eq_true, if_false]
   rfl
  ·rw [show invR m = ([], false) by unfold invR; rw [if_neg (fun h => hn h.2)]]
   rw [show (((m.length : Nat) : Int) != (((m.headD []).length : Nat) : Int)) = true from bne_iff_ne.mpr (by omega)]
   exact bad

theorem applies_last {n N : Nat} {f g : Nat → Nat → Nat} {U : Nat → Nat → Nat} (n1 : 1 ≤ n) (n3 : n ≤ 3) (hN : N ≤ 8) (hf : ∀ i, i < n → ∀ j, j < n → f i j < 256) (hg : ∀ i, i < n → ∀ j, j < n → g i j < 256) (hU : ∀ k, k < n → ∀ t, t < N → U k t < 256) (u : List ByteArray) :
  Ev (fun k => laws_FnApplies.l0 k (mk n n f) (mk n n g) u (unitsB n N U) (n : Int)) true := by
 have H : ∀ {r c : Nat} {f : Nat → Nat → Nat}, r ≤ 8 → c ≤ 8 → (mk r c f).length ≤ 1099511627776 ∧ ∀ x ∈ mk r c f, x.length ≤ 1099511627776 := fun hr hc => ⟨by rw [mk_length]; omega, mk_rows (by omega)⟩
 have us : ∀ V : Nat → Nat → Nat, ∀ x ∈ unitsB n N V, x.size ≤ 1073741824 := fun V x hx => by rw [unitsB_size n N V x hx]; omega
 have ap : ∀ (A V : Nat → Nat → Nat), (∀ i, i < n → ∀ j, j < n → A i j < 256) → (∀ k, k < n → ∀ t, t < N → V k t < 256) → Ev (fun k => impl_ApplyM.f k (mk n n A) (unitsB n N V)) (unitsB n N (fun i t => xs n (fun k => Gf.mul (A i k) (V k t)))) := by
  intro A V hA hV
  have h := impl_ApplyM_ev (mk n n A) (unitsB n N V) (H (by omega) (by omega)).1 (H (by omega) (by omega)).2 (us V)
  rw [applyR_units n1 (by omega) n1 (by omega) hA hV] at h
  exact h
 have sm : ∀ V : Nat → Nat → Nat, Ev (fun k => laws_sameTexts.f k (unitsB n N V) (unitsB n N V)) true := fun V => sameT_ev _ (by rw [unitsB_length]; omega)
 have m1 := spec_MulM_ev (mk n n f) (mk n n g) (H (by omega) (by omega)).1 (H (by omega) (by omega)).1 (H (by omega) (by omega)).2 (H (by omega) (by omega)).2
 rw [mulR_mk ⟨n1, by omega⟩ ⟨n1, by omega⟩ ⟨n1, by omega⟩ hf hg] at m1
 have gU : ∀ l, l < n → ∀ t, t < N → xs n (fun k => Gf.mul (g l k) (U k t)) < 256 := fun l hl t _ => mul_lt_of (hg l hl)
 have fU : ∀ l, l < n → ∀ t, t < N → xs n (fun k => Gf.mul (f l k) (U k t)) < 256 := fun l hl t _ => mul_lt_of (hf l hl)
 have a1 := ap (fun i j => xs n (fun k => Gf.mul (f i k) (g k j))) U (fun i hi j hj => mul_lt_of (hf i hi)) hU
 have a2 := ap g U hg hU
 have a3 := ap f (fun l t => xs n (fun k => Gf.mul (g l k) (U k t))) hf gU
 have e13 : unitsB n N (fun i t => xs n (fun k => Gf.mul (xs n (fun l => Gf.mul (f i l) (g l k))) (U k t))) = unitsB n N (fun i t => xs n (fun l => Gf.mul (f i l) (xs n (fun k => Gf.mul (g l k) (U k t))))) :=
  unitsB_congr (fun i hi t ht => assoc_pt (r := n) (hf i hi) hg (fun k hk => hU k hk t ht))
 rw [e13] at a1
 have a4 := ap f U hf hU
 have iv := spec_InvM_ev (mk n n f) (H (by omega) (by omega)).1 (H (by omega) (by omega)).2
 have a6 := ap idf U (fun i _ j _ => idf_lt i j) hU
 have e6 : unitsB n N (fun i t => xs n (fun k => Gf.mul (idf i k) (U k t))) = unitsB n N U := unitsB_congr (fun i hi t ht => id_pt (z := fun k => U k t) hi (fun k hk => hU k hk t ht))
 rw [e6] at a6
 have o1 := spec_OneM_ev (((unitsB n N U).length : Nat) : Int)
 unfold oneR at o1
 rw [unitsB_length, if_pos (by omega), Int.toNat_natCast] at o1
 have a7 := impl_ApplyM_ev (mk n n f) [] (H (by omega) (by omega)).1 (H (by omega) (by omega)).2 (by simp)
 rw [show applyR (mk n n f) [] = [] by unfold applyR; rw [if_neg (fun h => by have := h.2; rw [mk_head n n f (by omega)] at this; simp at this; omega)]] at a7
 have tail : Ev (fun k => (spec_OneM.f k (((unitsB n N U).length : Nat) : Int)).bind fun t => (impl_ApplyM.f k t (unitsB n N U)).bind fun s => (laws_sameTexts.f k s (unitsB n N U)).bind fun q => if q = true then (impl_ApplyM.f k (mk n n f) ([] : List ByteArray)).bind fun z => some ((z.length : Int) == 0) else some false) true := by
  rw [unitsB_length]
  exact Ev.bind o1 (Ev.bind a6 (Ev.bind (sm U) (Ev.pos rfl (Ev.bind a7 (Ev.now _)))))
 refine Ev.step (f := fun k => (spec_MulM.f k (mk n n f) (mk n n g)).bind fun t384 => (impl_ApplyM.f k t384 (unitsB n N U)).bind fun t387 => (impl_ApplyM.f k (mk n n g) (unitsB n N U)).bind fun t390 => (impl_ApplyM.f k (mk n n f) t390).bind fun t393 => (spec_InvM.f k (mk n n f)).bind fun bt396 => (impl_ApplyM.f k (mk n n f) (unitsB n N U)).bind fun t400 => (impl_ApplyM.f k bt396.1 t400).bind fun t403 => (laws_sameTexts.f k t387 t393).bind fun t406 => if t406 = true then (if (t387.length : Int) = ((mk n n f).length : Int) then (if bt396.2 = true then ((laws_sameTexts.f k t403 (unitsB n N U)).bind fun t407 => if t407 = true then ((spec_OneM.f k (((unitsB n N U).length : Nat) : Int)).bind fun t => (impl_ApplyM.f k t (unitsB n N U)).bind fun s => (laws_sameTexts.f k s (unitsB n N U)).bind fun q => if q = true then (impl_ApplyM.f k (mk n n f) ([] : List ByteArray)).bind fun z => some ((z.length : Int) == 0) else some false) else some false) else ((spec_OneM.f k (((unitsB n N U).length : Nat) : Int)).bind fun t => (impl_ApplyM.f k t (unitsB n N U)).bind fun s => (laws_sameTexts.f k s (unitsB n N U)).bind fun q => if q = true then (impl_ApplyM.f k (mk n n f) ([] : List ByteArray)).bind fun z => some ((z.length : Int) == 0) else some false)) else some false) else some false) (fun k => ?_) ?_
 ·simp only [laws_FnApplies.l0]
  rw [if_neg (by rw [mk_length]; omega)]
 ·refine Ev.bind m1 (Ev.bind a1 (Ev.bind a2 (Ev.bind a3 (Ev.bind iv (Ev.bind a4 ?_)))))
  have ok : okM (mk n n f) = true := okM_mk n1 (by omega) n1 (by omega) hf
  have ir : invR (mk n n f) = gjRes n (gj n (ent (mk n n f))) := by
   unfold invR
   rw [if_pos ⟨ok, by rw [mk_length, mk_head n n f (by omega)]⟩, mk_length]
  rw [ir]
  have hM : bytesM n (ent (mk n n f)) := fun i hi j hj => by rw [ent_mk n n f hi hj]; exact hf i hi j hj
  cases hgj : gj n (ent (mk n n f)) with
  | none =>
   have bad : Ev (fun k => impl_ApplyM.f k (gjRes n none).1 (unitsB n N (fun i t => xs n (fun k => Gf.mul (f i k) (U k t))))) [] := by
    have h := impl_ApplyM_ev [] (unitsB n N (fun i t => xs n (fun k => Gf.mul (f i k) (U k t)))) (by simp) (by simp) (us _)
    rw [show applyR [] (unitsB n N (fun i t => xs n (fun k => Gf.mul (f i k) (U k t)))) = [] by unfold applyR; rw [if_neg (fun h => by have := h.1; simp [okM, in18] at this)]] at h
    exact h
   refine Ev.bind bad (Ev.bind (sm _) (Ev.pos rfl (Ev.pos (by rw [unitsB_length, mk_length]) (Ev.neg (by simp [gjRes]) tail))))
  | some B =>
   obtain ⟨hB, h1, _⟩ := gj_ok hM hgj
   have a5 := ap B (fun i t => xs n (fun k => Gf.mul (f i k) (U k t))) hB fU
   have e5 : unitsB n N (fun i t => xs n (fun l => Gf.mul (B i l) (xs n (fun k => Gf.mul (f l k) (U k t))))) = unitsB n N U := by
    refine unitsB_congr (fun i hi t ht => ?_)
    rw [← assoc_pt (r := n) (hB i hi) hf (fun k hk => hU k hk t ht)]
    have e : xs n (fun k => Gf.mul (xs n (fun l => Gf.mul (B i l) (f l k))) (U k t)) = xs n (fun k => Gf.mul (idf i k) (U k t)) := xs_congr (fun k hk => by
     have z := h1 i hi k hk
     unfold mulF at z
     rw [xs_congr (g := fun l => Gf.mul (B i l) (f l k)) (fun l hl => by rw [ent_mk n n f hl hk])] at z
     rw [z])
    rw [e]
    exact id_pt (z := fun k => U k t) hi (fun k hk => hU k hk t ht)
   rw [e5] at a5
   exact Ev.bind a5 (Ev.bind (sm _) (Ev.pos rfl (Ev.pos (by rw [unitsB_length, mk_length]) (Ev.pos rfl (Ev.bind (sm U) (Ev.pos rfl tail))))))
theorem FnApplies : laws_FnApplies.Pure := by
 intro l _ hl _
 have hl' : l.length ≤ 140737488351232 := by omega
 refine Ev.rounds ?_
 unfold laws_FnApplies.f
 refine Ev.some_bind (x := decide ((l.length : Int) > 1048576)) rfl ?_
 by_cases hb : (l.length : Int) > 1048576
 ·exact Ev.pos (by simpa using hb) (Ev.now _)
 ·refine Ev.neg (by simpa using hb) ?_
  obtain ⟨n, f, g, h, n1, n3, hd, hf, hg, hh⟩ := drawSquares_ev l hl'
  obtain ⟨s, k, N, u, hs, hN, hu, hk, hz⟩ := drawUnits_ev l hl'
  have k1 : 1 ≤ k ∧ k ≤ 4 := by omega
  refine Ev.bind hd (Ev.bind hu ?_)
  have U0 : ∀ i, i < n → ofB N (bt8 (u.getD (i % k) ByteArray.empty)) = u.getD (i % k) ByteArray.empty := by
   intro i hi
   have hm : i % k < u.length := by rw [hk]; exact Nat.mod_lt _ (by omega)
   refine ofB_self ?_
   rw [List.getD_eq_getElem?_getD, List.getElem?_eq_getElem hm]
   exact hz _ (List.getElem_mem hm)
  have key : ∀ d i : Nat, i ≤ n → n - i = d → Ev (fun q => laws_FnApplies.l0 q (mk n n f) (mk n n g) u (unitsB i N (fun i => bt8 (u.getD (i % k) ByteArray.empty))) (i : Int)) true := by
   intro d
   induction d with
   | zero =>
    intro i hi hd
    obtain rfl : i = n := by omega
    exact applies_last n1 n3 hN hf hg (fun k _ t _ => bt8_lt _ _) u
   | succ d ih =>
    intro i hi hd
    have z := ih (i + 1) (by omega) (by omega)
    unfold unitsB at z
    rw [range_map_succ, U0 i (by omega)] at z
    have tm : Int.tmod (i : Int) ((u.length : Nat) : Int) = ((i % k : Nat) : Int) := by rw [hk]; rfl
    have hm : i % k < k := Nat.mod_lt _ (by omega)
    refine Ev.step (fun q => ?_) z
    simp only [laws_FnApplies.l0]
    rw [if_pos (by rw [mk_length]; omega), if_neg (by omega), tm, if_pos (by omega), if_pos (by omega), if_pos (by rw [unitsB_length]; omega), wsucc (by omega)]
    unfold rdOf
    rw [Int.toNat_natCast]
    rfl
  exact key n 0 (by omega) (by omega)


end Go.Proofs.Ythjdnjmlamfdbaa.Pure
