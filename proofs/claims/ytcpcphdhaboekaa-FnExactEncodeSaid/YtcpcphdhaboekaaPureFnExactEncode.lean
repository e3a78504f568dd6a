/- The program's Encode and the reference's Encode return the same, for every schema's number and every list of texts; the argument is left alone, and what is returned is shared with nothing. -/
import Derived.Test.YtcpcphdhaboekaaXFnExactEncodex9
import Derived.Test.YtcpcphdhaboekaaWf
set_option linter.unusedVariables false
set_option linter.unusedSimpArgs false
namespace Go.Proofs.Ytcpcphdhaboekaa.Pure
open Go.RowKit Go.Proofs.Ytcpcphdhaboekaa.XFnExactEncode Go.Proofs.YtcpcphdhaboekaaW.PrintWords Go.Proofs.YtcpcphdhaboekaaW.PrintLast

/-! ### small words -/
theorem w64 {x : Int} (h0 : -9223372036854775808 ≤ x) (h1 : x ≤ 9223372036854775807) : wrap64 x = x := by
  unfold wrap64
  omega
theorem wf64 {x : Int} (h : (Lit.int .i64 x).wf = true) : -9223372036854775808 ≤ x ∧ x ≤ 9223372036854775807 := by
  simp [Lit.wf, IntKind.min, IntKind.max, IntKind.signed, IntKind.bits] at h
  omega
theorem wfu32 {x : Int} (h : (Lit.int .u32 x).wf = true) : 0 ≤ x ∧ x ≤ 4294967295 := by
  simp [Lit.wf, IntKind.min, IntKind.max, IntKind.signed, IntKind.bits] at h
  omega
theorem wfu8 {x : Int} (h : (Lit.int .u8 x).wf = true) : 0 ≤ x ∧ x ≤ 255 := by
  simp [Lit.wf, IntKind.min, IntKind.max, IntKind.signed, IntKind.bits] at h
  omega
theorem wsucc {n : Nat} (h : n ≤ 4611686018427387904) : wrap64 ((n : Int) + 1) = ((n + 1 : Nat) : Int) := by
  rw [w64 (by omega) (by omega)]
  rfl
theorem wadd {a b : Nat} (h : a + b ≤ 4611686018427387904) : wrap64 ((a : Int) + (b : Int)) = ((a + b : Nat) : Int) := by
  rw [w64 (by omega) (by omega)]
  rfl
theorem wnat {n : Nat} (h : n ≤ 4611686018427387904) : wrap64 (n : Int) = (n : Int) := w64 (by omega) (by omega)
theorem Ev.some_bind {α β : Type} {a : Option α} {x : α} (h : a = some x) {f : Nat → α → Option β} {r : β} (k : Ev (fun n => f n x) r) : Ev (fun n => a.bind (f n)) r := by
  subst h
  exact k
theorem Ev.pos {α : Type} {p : Prop} [Decidable p] (h : p) {f g : Nat → Option α} {r : α} (k : Ev f r) : Ev (fun n => if p then f n else g n) r :=
  Ev.congr (fun _ => if_pos h) k
theorem Ev.neg {α : Type} {p : Prop} [Decidable p] (h : ¬ p) {f g : Nat → Option α} {r : α} (k : Ev g r) : Ev (fun n => if p then f n else g n) r :=
  Ev.congr (fun _ => if_neg h) k
theorem tmod_nat {x : Int} (h0 : 0 ≤ x) (N : Nat) : ∃ c : Nat, Int.tmod x ((N + 1 : Nat) : Int) = (c : Int) ∧ c ≤ N := by
  obtain ⟨c, hc⟩ := Int.eq_ofNat_of_zero_le (Int.tmod_nonneg ((N + 1 : Nat) : Int) h0)
  have hlt := Int.tmod_lt_of_pos x (show (0 : Int) < ((N + 1 : Nat) : Int) by omega)
  rw [hc] at hlt
  exact ⟨c, hc, by omega⟩

theorem strOfNums_size (xs : List Int) : (strOfNums xs).size = xs.length := by simp [strOfNums, ByteArray.size]
theorem str_ext {a b : ByteArray} (h : a.data.toList = b.data.toList) : a = b := by
  apply ByteArray.ext
  exact Array.toList_inj.1 h
theorem str_app (a b : ByteArray) : (a ++ b).data.toList = a.data.toList ++ b.data.toList := by simp [ByteArray.data_append]
theorem str_cut (s : ByteArray) (a b : Nat) : (s.extract a b).data.toList = (s.data.toList.drop a).take (b - a) := by
  obtain ⟨⟨l⟩⟩ := s
  simp [ByteArray.data_extract, List.extract_eq_take_drop]
theorem str_len (s : ByteArray) : s.data.toList.length = s.size := rfl
theorem str_toList {a b : ByteArray} : a.toList = b.toList ↔ a = b := by
  rw [ByteArray.toList_eq, ByteArray.toList_eq]
  exact ⟨str_ext, fun h => by rw [h]⟩
theorem str_split (s : ByteArray) (n : Nat) (h : n ≤ s.size) : s.extract 0 n ++ s.extract n s.size = s := by
  apply str_ext
  rw [str_app, str_cut, str_cut, List.drop_zero, Nat.sub_zero, List.take_of_length_le (l := s.data.toList.drop n) (by simp [str_len]), List.take_append_drop]
theorem str_app_inj {a b c : ByteArray} (h : a ++ b = a ++ c) : b = c := by
  have := congrArg (fun s : ByteArray => s.data.toList) h
  simp only [str_app] at this
  exact str_ext (List.append_cancel_left this)
theorem cut_size (s : ByteArray) {n : Nat} (h : n ≤ s.size) : (s.extract 0 n).size = n := by
  rw [ByteArray.size_extract]
  omega

theorem spec_l01In_eq (a l h : Int) : spec_l01In.f a l h = some (decide (l ≤ a ∧ a ≤ h)) := by
  unfold spec_l01In.f
  by_cases h1 : l ≤ a
  · rw [if_pos h1]; simp [h1]
  · rw [if_neg h1]; simp [h1]

theorem impl_within_eq (a l h : Int) : impl_within.f a l h = some (decide (l ≤ a ∧ a ≤ h)) := by
  unfold impl_within.f
  by_cases h1 : l ≤ a
  · rw [if_pos h1]; simp [h1]
  · rw [if_neg h1]; simp [h1]

/-! ### lists of lists of whole numbers: read -/
theorem rdI_nat {l : List Int} {i : Nat} (h : i < l.length) : rd l (i : Int) = l[i] := by
  unfold rd
  rw [Int.toNat_natCast, List.getD_eq_getElem?_getD, List.getElem?_eq_getElem h]
  rfl
theorem rdL_nat {l : List (List Int)} {i : Nat} (h : i < l.length) : rd_L2 l (i : Int) = l[i] := by
  unfold rd_L2
  rw [Int.toNat_natCast, List.getD_eq_getElem?_getD, List.getElem?_eq_getElem h]
  rfl
theorem rdI_mid (A : List Int) (x : Int) (B : List Int) : rd (A ++ x :: B) (A.length : Int) = x := by simp [rd]
theorem rdL_mid (A : List (List Int)) (x : List Int) (B : List (List Int)) : rd_L2 (A ++ x :: B) (A.length : Int) = x := by simp [rd_L2]
theorem set_midI {α : Type} (A : List α) (x v : α) (B : List α) : (A ++ x :: B).set A.length v = A ++ v :: B := by simp

/-! ### what a right matrix is -/
def inB (x : Int) : Bool := decide (0 ≤ x ∧ x ≤ 255)
def okR (n : Nat) (r : List Int) : Bool := decide (r.length = n) && r.all inB
def in18 (n : Nat) : Bool := decide (1 ≤ n ∧ n ≤ 8)
def okM (m : List (List Int)) : Bool := in18 m.length && in18 (m.headD []).length && m.all (okR (m.headD []).length)
theorem in18_int (n : Nat) : decide ((1 : Int) ≤ (n : Int) ∧ (n : Int) ≤ 8) = in18 n := by
  unfold in18
  by_cases h : 1 ≤ n ∧ n ≤ 8
  · rw [decide_eq_true h, decide_eq_true (by omega)]
  · rw [decide_eq_false h, decide_eq_false (by omega)]
theorem rdL_zero (m : List (List Int)) : rd_L2 m 0 = m.headD [] := by
  cases m <;> rfl

/-! ### spec.MatrixOk -/
theorem spec_MatrixOk_ev (m : List (List Int)) (hl : m.length ≤ 4611686018427387904) (hr : ∀ r ∈ m, r.length ≤ 4611686018427387904) : Ev (fun k => spec_MatrixOk.f k m) (okM m) := by
  have key : ∀ (B A : List (List Int)), m = A ++ B → Ev (fun k => spec_MatrixOk.l0 k m (A.length : Int)) (B.all (fun r => okR (m.headD []).length r && in18 (m.headD []).length) && in18 m.length) := by
    intro B
    induction B with
    | nil =>
      intro A h
      refine Ev.step (f := fun _ => some (in18 m.length)) (fun k => ?_) (Ev.now _)
      simp only [spec_MatrixOk.l0]
      rw [if_neg (by rw [h]; simp), spec_l01In_eq, in18_int]
      rfl
    | cons x B ih =>
      intro A h
      have e : m.length = A.length + (B.length + 1) := by rw [h]; simp
      have r : rd_L2 m (A.length : Int) = x := by rw [h]; exact rdL_mid A x B
      have hx : x.length ≤ 4611686018427387904 := hr x (by rw [h]; simp)
      have z := ih (A ++ [x]) (by simp [h])
      have inner : ∀ (D C : List Int), x = C ++ D → Ev (fun k => spec_MatrixOk.l1 k m (A.length : Int) (C.length : Int)) (D.all inB && (B.all (fun r => okR (m.headD []).length r && in18 (m.headD []).length) && in18 m.length)) := by
        intro D
        induction D with
        | nil =>
          intro C hc
          refine Ev.step (fun k => ?_) z
          simp only [spec_MatrixOk.l1]
          rw [if_pos (by omega), if_pos (by omega), r, if_neg (by rw [hc]; simp), wsucc (by omega)]
          simp
        | cons y D ihd =>
          intro C hc
          have ex : x.length = C.length + (D.length + 1) := by rw [hc]; simp
          have ry : rd x (C.length : Int) = y := by rw [hc]; exact rdI_mid C y D
          have zd := ihd (C ++ [y]) (by simp [hc])
          by_cases hy : inB y = true
          · rw [List.all_cons, hy, Bool.true_and]
            refine Ev.step (fun k => ?_) zd
            simp only [spec_MatrixOk.l1]
            rw [if_pos (by omega), if_pos (by omega), r, if_pos (by omega), if_pos (by omega), ry, spec_l01In_eq, Option.bind_some, if_pos (by exact hy), wsucc (by omega)]
            simp
          · rw [List.all_cons, Bool.eq_false_iff.mpr hy, Bool.false_and, Bool.false_and]
            refine Ev.step (f := fun _ => some false) (fun k => ?_) (Ev.now _)
            simp only [spec_MatrixOk.l1]
            rw [if_pos (by omega), if_pos (by omega), r, if_pos (by omega), if_pos (by omega), ry, spec_l01In_eq, Option.bind_some, if_neg (by exact hy)]
      have j : ∀ b : Bool, Ev (fun k => spec_MatrixOk.j1 k m (A.length : Int) b) (!b && (x.all inB && (B.all (fun r => okR (m.headD []).length r && in18 (m.headD []).length) && in18 m.length))) := by
        intro b
        cases b with
        | true => exact Ev.step (f := fun _ => some false) (fun k => by simp only [spec_MatrixOk.j1, if_true]) (Ev.now _)
        | false =>
          have y := inner x [] rfl
          rw [Bool.not_false, Bool.true_and]
          refine Ev.step (fun k => ?_) y
          simp only [spec_MatrixOk.j1, Bool.false_eq_true, if_false]
          rfl
      rw [List.all_cons]
      by_cases hn : x.length = (m.headD []).length
      · refine Ev.step (f := fun k => spec_MatrixOk.j1 k m (A.length : Int) (!in18 x.length)) (fun k => ?_) ?_
        · simp only [spec_MatrixOk.l0]
          rw [if_pos (by omega), if_pos (by omega), if_pos (by omega), r, rdL_zero, if_pos (by omega), spec_l01In_eq, Option.bind_some, in18_int]
        · have jj := j (!in18 x.length)
          have eqv : (okR (m.headD []).length x && in18 (m.headD []).length && B.all (fun r => okR (m.headD []).length r && in18 (m.headD []).length) && in18 m.length) = (!(!in18 x.length) && (x.all inB && (B.all (fun r => okR (m.headD []).length r && in18 (m.headD []).length) && in18 m.length))) := by
            unfold okR
            rw [hn, decide_eq_true rfl]
            cases x.all inB <;> cases in18 (m.headD []).length <;> rfl
          rw [eqv]
          exact jj
      · refine Ev.step (f := fun k => spec_MatrixOk.j1 k m (A.length : Int) true) (fun k => ?_) ?_
        · simp only [spec_MatrixOk.l0]
          rw [if_pos (by omega), if_pos (by omega), if_pos (by omega), r, rdL_zero, if_neg (by omega)]
        · have jj := j true
          have eqv : (okR (m.headD []).length x && in18 (m.headD []).length && B.all (fun r => okR (m.headD []).length r && in18 (m.headD []).length) && in18 m.length) = false := by
            unfold okR
            rw [decide_eq_false hn]
            rfl
          rw [eqv]
          exact jj
  have z := key m [] rfl
  have e : okM m = (m.all (fun r => okR (m.headD []).length r && in18 (m.headD []).length) && in18 m.length) := by
    cases m with
    | nil => rfl
    | cons x B =>
      unfold okM
      cases hx : in18 ((x :: B).headD []).length with
      | true =>
        simp only [Bool.and_true]
        exact Bool.and_comm _ _
      | false => simp
  rw [e]
  exact z

/-! ### impl.MatrixOk -/
theorem closure_eq (x : Int) : impl_MatrixOk_1.f x = some (!inB x) := by
  unfold impl_MatrixOk_1.f
  rw [impl_within_eq]
  rfl
theorem idx_ev (l : List Int) (hl : l.length ≤ 4611686018427387904) : ∃ r : Int, Ev (fun k => slices_IndexFunc_int_int.f k l) r ∧ decide (r ≥ 0) = !(l.all inB) := by
  have key : ∀ (B A : List Int), l = A ++ B → ∃ r : Int, Ev (fun k => slices_IndexFunc_int_int.l0 k l (l.length : Int) (A.length : Int)) r ∧ decide (r ≥ 0) = !(B.all inB) := by
    intro B
    induction B with
    | nil =>
      intro A h
      refine ⟨-1, Ev.step (f := fun _ => some (-1)) (fun k => ?_) (Ev.now _), rfl⟩
      simp only [slices_IndexFunc_int_int.l0]
      rw [if_neg (by rw [h]; simp)]
    | cons x B ih =>
      intro A h
      have e : l.length = A.length + (B.length + 1) := by rw [h]; simp
      have r : rd l (A.length : Int) = x := by rw [h]; exact rdI_mid A x B
      by_cases hx : inB x = true
      · obtain ⟨q, hq, hq2⟩ := ih (A ++ [x]) (by simp [h])
        refine ⟨q, Ev.step (fun k => ?_) hq, by rw [List.all_cons, hx, Bool.true_and]; exact hq2⟩
        simp only [slices_IndexFunc_int_int.l0]
        rw [if_pos (by omega), if_pos (by omega), if_pos (by omega), r, closure_eq, hx, Option.bind_some, if_neg (by simp), wsucc (by omega)]
        simp
      · refine ⟨(A.length : Int), Ev.step (f := fun _ => some (A.length : Int)) (fun k => ?_) (Ev.now _), ?_⟩
        · simp only [slices_IndexFunc_int_int.l0]
          rw [if_pos (by omega), if_pos (by omega), if_pos (by omega), r, closure_eq, Option.bind_some, if_pos (by simp [hx])]
        · rw [List.all_cons, Bool.eq_false_iff.mpr hx, decide_eq_true (by omega)]
          rfl
  exact key l [] rfl
theorem cont_ev (l : List Int) (hl : l.length ≤ 4611686018427387904) : Ev (fun k => slices_ContainsFunc_int_int.f k l) (!(l.all inB)) := by
  obtain ⟨r, h1, h2⟩ := idx_ev l hl
  unfold slices_ContainsFunc_int_int.f
  refine Ev.bind h1 ?_
  rw [h2]
  exact Ev.now _
theorem impl_MatrixOk_ev (m : List (List Int)) (hl : m.length ≤ 4611686018427387904) (hr : ∀ r ∈ m, r.length ≤ 4611686018427387904) : Ev (fun k => impl_MatrixOk.f k m) (okM m) := by
  have key : ∀ (B A : List (List Int)), m = A ++ B → Ev (fun k => impl_MatrixOk.l0 k m m (m.length : Int) (A.length : Int)) (B.all (okR (m.headD []).length)) := by
    intro B
    induction B with
    | nil =>
      intro A h
      refine Ev.step (f := fun _ => some true) (fun k => ?_) (Ev.now _)
      simp only [impl_MatrixOk.l0]
      rw [if_neg (by rw [h]; simp)]
    | cons x B ih =>
      intro A h
      have e : m.length = A.length + (B.length + 1) := by rw [h]; simp
      have r : rd_L2 m (A.length : Int) = x := by rw [h]; exact rdL_mid A x B
      have hx : x.length ≤ 4611686018427387904 := hr x (by rw [h]; simp)
      have z := ih (A ++ [x]) (by simp [h])
      rw [List.all_cons]
      by_cases hn : x.length = (m.headD []).length
      · refine Ev.step (f := fun k => (slices_ContainsFunc_int_int.f k x).bind fun t => if t = true then some false else impl_MatrixOk.l0 k m m (m.length : Int) ((A.length + 1 : Nat) : Int)) (fun k => ?_) (Ev.bind (cont_ev x hx) ?_)
        · simp only [impl_MatrixOk.l0]
          rw [if_pos (by omega), if_pos (by omega), if_pos (by omega), if_pos (by omega), r, rdL_zero, if_pos (by omega), wsucc (by omega)]
        · have hok : okR (m.headD []).length x = x.all inB := by
            unfold okR
            rw [decide_eq_true hn, Bool.true_and]
          rw [hok]
          cases hb : x.all inB with
          | true =>
            refine Ev.neg (by simp) ?_
            simpa using z
          | false => exact Ev.pos (by rfl) (Ev.now _)
      · have hok : okR (m.headD []).length x = false := by
          unfold okR
          rw [decide_eq_false hn, Bool.false_and]
        rw [hok, Bool.false_and]
        refine Ev.step (f := fun _ => some false) (fun k => ?_) (Ev.now _)
        simp only [impl_MatrixOk.l0]
        rw [if_pos (by omega), if_pos (by omega), if_pos (by omega), if_pos (by omega), r, rdL_zero, if_neg (by omega)]
  unfold impl_MatrixOk.f okM
  rw [impl_within_eq, in18_int]
  cases h1 : in18 m.length with
  | false =>
    refine Ev.congr (g := fun k => _) (f := fun k => impl_MatrixOk.j0 k m true) (fun k => ?_) ?_
    · rw [Option.bind_some, if_neg (by simp)]
    · exact Ev.step (f := fun _ => some false) (fun k => by simp only [impl_MatrixOk.j0, if_true]) (Ev.now _)
  | true =>
    have hp : 1 ≤ m.length := (of_decide_eq_true h1).1
    refine Ev.congr (f := fun k => impl_MatrixOk.j0 k m (!in18 (m.headD []).length)) (fun k => ?_) ?_
    · rw [Option.bind_some, if_pos rfl, if_pos (by omega), impl_within_eq, rdL_zero, in18_int, Option.bind_some]
    · cases h2 : in18 (m.headD []).length with
      | false => exact Ev.step (f := fun _ => some false) (fun k => by simp only [impl_MatrixOk.j0, Bool.not_false, if_true]) (Ev.now _)
      | true =>
        refine Ev.step (fun k => ?_) (key m [] rfl)
        simp only [impl_MatrixOk.j0, Bool.not_true, Bool.false_eq_true, if_false]
        rfl

/- Plain law: the field of bytes (polynomials over bits modulo 285), over natural numbers. -/
namespace Gf

/-- One step: times x. -/
def xt (a : Nat) : Nat := if 255 < 2 * a then (2 * a) ^^^ 285 else 2 * a

/-- The product, bit by bit of b. -/
def gm : Nat → Nat → Nat → Nat
  | 0, _, _ => 0
  | n + 1, a, b => (if b % 2 = 1 then a else 0) ^^^ gm n (xt a) (b / 2)

def mul (a b : Nat) : Nat := gm 8 a b

theorem xor_mod2 (a b : Nat) : (a ^^^ b) % 2 = (a % 2 + b % 2) % 2 := by
  have h := Nat.testBit_xor (x := a) (y := b) (i := 0)
  simp only [Nat.testBit_zero] at h
  have hX : (a ^^^ b) % 2 < 2 := Nat.mod_lt _ (by omega)
  have h1 : a % 2 = 0 ∨ a % 2 = 1 := by omega
  have h2 : b % 2 = 0 ∨ b % 2 = 1 := by omega
  generalize (a ^^^ b) % 2 = X at h hX ⊢
  rcases h1 with h1 | h1 <;> rcases h2 with h2 | h2 <;> rw [h1, h2] at h ⊢ <;> simp at h <;> omega

theorem xor_div2 (a b : Nat) : (a ^^^ b) / 2 = (a / 2) ^^^ (b / 2) := Nat.xor_div_two

theorem xor_lt {a b n : Nat} (ha : a < 2 ^ n) (hb : b < 2 ^ n) : a ^^^ b < 2 ^ n := Nat.xor_lt_two_pow ha hb

theorem xt_lt {a : Nat} (h : a < 256) : xt a < 256 := by
  have : ∀ a : Fin 256, xt a.val < 256 := by decide +kernel
  exact this ⟨a, h⟩

theorem two_mul_xor (a b : Nat) : 2 * (a ^^^ b) = (2 * a) ^^^ (2 * b) := by
  have h := Nat.shiftLeft_xor_distrib (a := a) (b := b) (i := 1)
  simp only [Nat.shiftLeft_eq, Nat.pow_one] at h
  rw [Nat.mul_comm 2, Nat.mul_comm 2, Nat.mul_comm 2]
  exact h

theorem top_xor {a b : Nat} (ha : a < 256) (hb : b < 256) : (a ^^^ b) / 128 = (a / 128 + b / 128) % 2 := by
  have h : ((a ^^^ b) >>> 7) = (a >>> 7) ^^^ (b >>> 7) := Nat.shiftRight_xor_distrib
  simp only [Nat.shiftRight_eq_div_pow] at h
  have h1 : a / 2 ^ 7 < 2 := by omega
  have h2 : b / 2 ^ 7 < 2 := by omega
  have h3 := xor_mod2 (a / 2 ^ 7) (b / 2 ^ 7)
  have h4 : (a / 2 ^ 7) ^^^ (b / 2 ^ 7) < 2 ^ 1 := xor_lt (by omega) (by omega)
  omega

theorem xt_eq {a : Nat} (h : a < 256) : xt a = (2 * a) ^^^ (if a / 128 = 1 then 285 else 0) := by
  unfold xt
  by_cases h1 : 255 < 2 * a
  · rw [if_pos h1, if_pos (by omega)]
  · rw [if_neg h1, if_neg (by omega), Nat.xor_zero]

theorem xt_xor {a b : Nat} (ha : a < 256) (hb : b < 256) : xt (a ^^^ b) = xt a ^^^ xt b := by
  have hab : a ^^^ b < 256 := xor_lt (n := 8) ha hb
  rw [xt_eq ha, xt_eq hb, xt_eq hab, two_mul_xor, top_xor ha hb]
  have h1 : a / 128 = 0 ∨ a / 128 = 1 := by omega
  have h2 : b / 128 = 0 ∨ b / 128 = 1 := by omega
  rcases h1 with h1 | h1 <;> rcases h2 with h2 | h2 <;> rw [h1, h2] <;> simp
  · ac_rfl
  · ac_rfl
  · rw [show (2 * a ^^^ 285) ^^^ (2 * b ^^^ 285) = (285 ^^^ 285) ^^^ (2 * a ^^^ 2 * b) by ac_rfl, Nat.xor_self, Nat.zero_xor]

theorem gm_lt (n : Nat) : ∀ {a : Nat} (b : Nat), a < 256 → gm n a b < 256 := by
  induction n with
  | zero => intro a b _; simp [gm]
  | succ n ih =>
    intro a b h
    unfold gm
    refine xor_lt (n := 8) ?_ (ih _ (xt_lt h))
    split <;> omega

theorem gm_xor_left (n : Nat) : ∀ {a c : Nat} (b : Nat), a < 256 → c < 256 → gm n (a ^^^ c) b = gm n a b ^^^ gm n c b := by
  induction n with
  | zero => intro a c b _ _; simp [gm]
  | succ n ih =>
    intro a c b ha hc
    simp only [gm]
    rw [xt_xor ha hc, ih _ (xt_lt ha) (xt_lt hc)]
    by_cases h : b % 2 = 1
    · simp only [if_pos h]; ac_rfl
    · simp only [if_neg h, Nat.zero_xor]

theorem gm_xor_right (n : Nat) : ∀ (a b c : Nat), gm n a (b ^^^ c) = gm n a b ^^^ gm n a c := by
  induction n with
  | zero => intro a b c; simp [gm]
  | succ n ih =>
    intro a b c
    simp only [gm]
    rw [xor_div2, ih, xor_mod2]
    have h1 : b % 2 = 0 ∨ b % 2 = 1 := by omega
    have h2 : c % 2 = 0 ∨ c % 2 = 1 := by omega
    rcases h1 with h1 | h1 <;> rcases h2 with h2 | h2 <;> rw [h1, h2] <;> simp
    · rw [← Nat.xor_assoc, Nat.xor_comm a, Nat.xor_assoc]
    · rw [Nat.xor_assoc]
    · have : a ^^^ gm n (xt a) (b / 2) ^^^ (a ^^^ gm n (xt a) (c / 2)) = (a ^^^ a) ^^^ (gm n (xt a) (b / 2) ^^^ gm n (xt a) (c / 2)) := by ac_rfl
      rw [this, Nat.xor_self, Nat.zero_xor]

theorem mul_lt {a : Nat} (b : Nat) (h : a < 256) : mul a b < 256 := gm_lt 8 b h
theorem mul_xor_left {a c : Nat} (b : Nat) (ha : a < 256) (hc : c < 256) : mul (a ^^^ c) b = mul a b ^^^ mul c b := gm_xor_left 8 b ha hc
theorem mul_xor_right (a b c : Nat) : mul a (b ^^^ c) = mul a b ^^^ mul a c := gm_xor_right 8 a b c

/-- Two functions that go through sums are one, if they are at the powers of two. -/
theorem add_ext (f g : Nat → Nat) (h0 : f 0 = g 0) (hf : ∀ a b, a < 256 → b < 256 → f (a ^^^ b) = f a ^^^ f b) (hg : ∀ a b, a < 256 → b < 256 → g (a ^^^ b) = g a ^^^ g b)
    (h : ∀ i, i < 8 → f (2 ^ i) = g (2 ^ i)) : ∀ a, a < 256 → f a = g a := by
  have key : ∀ n, n ≤ 8 → ∀ a, a < 2 ^ n → f a = g a := by
    intro n
    induction n with
    | zero =>
      intro _ a ha
      have : a = 0 := by omega
      rw [this, h0]
    | succ n ih =>
      intro hn a ha
      by_cases hlt : a < 2 ^ n
      · exact ih (by omega) a hlt
      · have h256 : 2 ^ (n + 1) ≤ 2 ^ 8 := Nat.pow_le_pow_right (by omega) hn
        have hs : 2 ^ (n + 1) = 2 * 2 ^ n := by rw [Nat.pow_succ]; omega
        have hr : a - 2 ^ n < 2 ^ n := by omega
        have he : a = 2 ^ n ^^^ (a - 2 ^ n) := by
          have h1 : 2 ^ n + (a - 2 ^ n) = 2 ^ n ^^^ (a - 2 ^ n) := by
            have := Nat.two_pow_add_eq_or_of_lt (i := n) (b := a - 2 ^ n) hr 1
            have h2 : (2 ^ n ||| (a - 2 ^ n)) = 2 ^ n ^^^ (a - 2 ^ n) := by
              apply Nat.eq_of_testBit_eq
              intro j
              rw [Nat.testBit_or, Nat.testBit_xor, Nat.testBit_two_pow]
              by_cases hj : n = j
              · subst hj
                rw [Nat.testBit_lt_two_pow hr]
                simp
              · simp [hj]
            rw [← h2]
            simpa using this
          omega
        rw [he, hf _ _ (by omega) (by omega), hg _ _ (by omega) (by omega), h n (by omega), ih (by omega) _ hr]
  intro a ha
  exact key 8 (Nat.le_refl _) a (by simpa using ha)

theorem mul_zero_right (a : Nat) : mul a 0 = 0 := by
  have : ∀ n a, gm n a 0 = 0 := by
    intro n
    induction n with
    | zero => intro a; rfl
    | succ n ih => intro a; simp [gm, ih]
  exact this 8 a
theorem mul_zero_left (b : Nat) : mul 0 b = 0 := by
  have : ∀ n b, gm n 0 b = 0 := by
    intro n
    induction n with
    | zero => intro b; rfl
    | succ n ih => intro b; simp [gm, xt, ih]
  exact this 8 b

theorem pow2_lt {i : Nat} (h : i < 8) : 2 ^ i < 256 := by
  have : 2 ^ i < 2 ^ 8 := Nat.pow_lt_pow_right (by omega) h
  omega

theorem mul_comm {a b : Nat} (ha : a < 256) (hb : b < 256) : mul a b = mul b a := by
  have base : ∀ i : Fin 8, ∀ j : Fin 8, mul (2 ^ i.val) (2 ^ j.val) = mul (2 ^ j.val) (2 ^ i.val) := by decide +kernel
  have step : ∀ i, i < 8 → ∀ b, b < 256 → mul (2 ^ i) b = mul b (2 ^ i) := by
    intro i hi
    refine add_ext (fun b => mul (2 ^ i) b) (fun b => mul b (2 ^ i)) ?_ ?_ ?_ ?_
    · show mul _ _ = mul _ _
      rw [mul_zero_right, mul_zero_left]
    · intro a b _ _; exact mul_xor_right _ _ _
    · intro a b ha hb; exact mul_xor_left _ ha hb
    · intro j hj; exact base ⟨i, hi⟩ ⟨j, hj⟩
  refine add_ext (fun a => mul a b) (fun a => mul b a) ?_ ?_ ?_ ?_ a ha
  · show mul _ _ = mul _ _
    rw [mul_zero_right, mul_zero_left]
  · intro a c ha hc; exact mul_xor_left _ ha hc
  · intro a c _ _; exact mul_xor_right _ _ _
  · intro i hi; exact step i hi b hb

theorem mul_assoc {a b c : Nat} (ha : a < 256) (hb : b < 256) (hc : c < 256) : mul (mul a b) c = mul a (mul b c) := by
  have base : ∀ i j k : Fin 8, mul (mul (2 ^ i.val) (2 ^ j.val)) (2 ^ k.val) = mul (2 ^ i.val) (mul (2 ^ j.val) (2 ^ k.val)) := by decide +kernel
  have s1 : ∀ i, i < 8 → ∀ j, j < 8 → ∀ c, c < 256 → mul (mul (2 ^ i) (2 ^ j)) c = mul (2 ^ i) (mul (2 ^ j) c) := by
    intro i hi j hj
    refine add_ext (fun c => mul (mul (2 ^ i) (2 ^ j)) c) (fun c => mul (2 ^ i) (mul (2 ^ j) c)) ?_ ?_ ?_ ?_
    · show mul _ _ = mul _ _
      rw [mul_zero_right, mul_zero_right, mul_zero_right]
    · intro a b _ _; exact mul_xor_right _ _ _
    · intro a b _ _
      show mul _ (mul _ _) = mul _ (mul _ _) ^^^ mul _ (mul _ _)
      rw [mul_xor_right, mul_xor_right]
    · intro k hk; exact base ⟨i, hi⟩ ⟨j, hj⟩ ⟨k, hk⟩
  have s2 : ∀ i, i < 8 → ∀ b, b < 256 → mul (mul (2 ^ i) b) c = mul (2 ^ i) (mul b c) := by
    intro i hi
    refine add_ext (fun b => mul (mul (2 ^ i) b) c) (fun b => mul (2 ^ i) (mul b c)) ?_ ?_ ?_ ?_
    · show mul (mul _ _) _ = mul _ (mul _ _)
      rw [mul_zero_right, mul_zero_left, mul_zero_right]
    · intro a b ha hb
      show mul (mul _ _) _ = mul (mul _ _) _ ^^^ mul (mul _ _) _
      rw [mul_xor_right, mul_xor_left _ (mul_lt _ (pow2_lt hi)) (mul_lt _ (pow2_lt hi))]
    · intro a b ha hb
      show mul _ (mul _ _) = mul _ (mul _ _) ^^^ mul _ (mul _ _)
      rw [mul_xor_left _ ha hb, mul_xor_right]
    · intro j hj; exact s1 i hi j hj c hc
  refine add_ext (fun a => mul (mul a b) c) (fun a => mul a (mul b c)) ?_ ?_ ?_ ?_ a ha
  · show mul (mul _ _) _ = mul _ (mul _ _)
    rw [mul_zero_left, mul_zero_left, mul_zero_left]
  · intro x y hx hy
    show mul (mul _ _) _ = mul (mul _ _) _ ^^^ mul (mul _ _) _
    rw [mul_xor_left _ hx hy, mul_xor_left _ (mul_lt _ hx) (mul_lt _ hy)]
  · intro x y hx hy; exact mul_xor_left _ hx hy
  · intro i hi; exact s2 i hi b hb

theorem mul_one_right {a : Nat} : mul a 1 = a := by
  unfold mul
  simp only [gm]
  simp

theorem mul_one_left {a : Nat} (h : a < 256) : mul 1 a = a := by
  rw [mul_comm (by omega) h, mul_one_right]

def pow (a : Nat) : Nat → Nat
  | 0 => 1
  | n + 1 => mul (pow a n) a

theorem pow_lt {a : Nat} (h : a < 256) : ∀ n, pow a n < 256
  | 0 => by simp [pow]
  | n + 1 => mul_lt _ (pow_lt h n)

theorem pow_add {a : Nat} (h : a < 256) (n m : Nat) : pow a (n + m) = mul (pow a n) (pow a m) := by
  induction m with
  | zero => simp [pow, mul_one_right]
  | succ m ih =>
    show mul (pow a (n + m)) a = mul (pow a n) (mul (pow a m) a)
    rw [ih, mul_assoc (pow_lt h n) (pow_lt h m) h]

def sq (a : Nat) : Nat := mul a a
/-- a 254 times, by squares. -/
def inv254 (a : Nat) : Nat :=
  let a2 := sq a
  let a4 := sq a2
  let a8 := sq a4
  let a16 := sq a8
  let a32 := sq a16
  let a64 := sq a32
  let a128 := sq a64
  mul (mul (mul (mul (mul (mul a128 a64) a32) a16) a8) a4) a2

theorem pow_dbl {a : Nat} (h : a < 256) (n : Nat) : pow a (n + n) = sq (pow a n) := pow_add h n n

theorem pow_254 {a : Nat} (h : a < 256) : pow a 254 = inv254 a := by
  have p1 : pow a 1 = a := by show mul 1 a = a; exact mul_one_left h
  have p2 : pow a 2 = sq a := by rw [show (2 : Nat) = 1 + 1 from rfl, pow_dbl h, p1]
  have p4 : pow a 4 = sq (sq a) := by rw [show (4 : Nat) = 2 + 2 from rfl, pow_dbl h, p2]
  have p8 : pow a 8 = sq (sq (sq a)) := by rw [show (8 : Nat) = 4 + 4 from rfl, pow_dbl h, p4]
  have p16 : pow a 16 = sq (sq (sq (sq a))) := by rw [show (16 : Nat) = 8 + 8 from rfl, pow_dbl h, p8]
  have p32 : pow a 32 = sq (sq (sq (sq (sq a)))) := by rw [show (32 : Nat) = 16 + 16 from rfl, pow_dbl h, p16]
  have p64 : pow a 64 = sq (sq (sq (sq (sq (sq a))))) := by rw [show (64 : Nat) = 32 + 32 from rfl, pow_dbl h, p32]
  have p128 : pow a 128 = sq (sq (sq (sq (sq (sq (sq a)))))) := by rw [show (128 : Nat) = 64 + 64 from rfl, pow_dbl h, p64]
  rw [show (254 : Nat) = 128 + 64 + 32 + 16 + 8 + 4 + 2 from rfl, pow_add h, pow_add h, pow_add h, pow_add h, pow_add h, pow_add h, p128, p64, p32, p16, p8, p4, p2]
  rfl

theorem mul_inv {a : Nat} (h : a < 256) (h0 : a ≠ 0) : mul a (pow a 254) = 1 := by
  rw [pow_254 h]
  have key : ∀ a : Fin 256, a.val ≠ 0 → mul a.val (inv254 a.val) = 1 := by decide +kernel
  exact key ⟨a, h⟩ h0

/-- What is 1 with a is a 254 times. -/
theorem inv_unique {a b : Nat} (ha : a < 256) (hb : b < 256) (h : mul a b = 1) : b = pow a 254 := by
  have h0 : a ≠ 0 := by
    rintro rfl
    rw [mul_zero_left] at h
    omega
  have hp := pow_lt ha 254
  have h1 : mul (mul (pow a 254) a) b = b := by
    rw [mul_comm hp ha, mul_inv ha h0, mul_one_left hb]
  rw [mul_assoc hp ha hb, h, mul_one_right] at h1
  exact h1.symm

theorem pow_zero_base (n : Nat) : pow 0 (n + 1) = 0 := mul_zero_right _

end Gf

/-! ### products of bytes -/
def modb (a : Int) : Nat := (a % 256).toNat
theorem modb_lt (a : Int) : modb a < 256 := by unfold modb; omega
theorem modb_nat {a : Nat} (h : a < 256) : modb (a : Int) = a := by unfold modb; omega
theorem bits_xor64 {a b : Nat} (ha : a < 2 ^ 63) (hb : b < 2 ^ 63) : Go.bits .xor .i64 (a : Int) (b : Int) = ((a ^^^ b : Nat) : Int) := by
  have hx : a ^^^ b < 2 ^ 63 := Nat.xor_lt_two_pow ha hb
  have e : (BitVec.ofNat 64 a ^^^ BitVec.ofNat 64 b).toNat = a ^^^ b := by rw [BitVec.toNat_xor, BitVec.toNat_ofNat, BitVec.toNat_ofNat, Nat.mod_eq_of_lt (by omega), Nat.mod_eq_of_lt (by omega)]
  show IntKind.i64.wrap (((BitVec.ofInt 64 (a : Int)) ^^^ (BitVec.ofInt 64 (b : Int))).toNat : Int) = _
  rw [BitVec.ofInt_natCast, BitVec.ofInt_natCast, e, IntKind.wrap_i64]
  omega
theorem bits_and255 {a : Int} (h0 : -9223372036854775808 ≤ a) (h1 : a ≤ 9223372036854775807) : Go.bits .and .i64 a 255 = ((modb a : Nat) : Int) := by
  have e : ((BitVec.ofInt 64 a) &&& (BitVec.ofInt 64 255)).toNat = (a % 18446744073709551616).toNat % 256 := by
    rw [BitVec.toNat_and, BitVec.toNat_ofInt, show (BitVec.ofInt 64 255).toNat = 2 ^ 8 - 1 by decide, Nat.and_two_pow_sub_one_eq_mod]
    rfl
  show IntKind.i64.wrap (((BitVec.ofInt 64 a) &&& (BitVec.ofInt 64 255)).toNat : Int) = _
  rw [e, IntKind.wrap_i64]
  unfold modb
  omega
theorem bits_and1 {b : Nat} (h : b < 256) : Go.bits .and .i64 (b : Int) 1 = ((b % 2 : Nat) : Int) := by
  have e : ((BitVec.ofInt 64 (b : Int)) &&& (BitVec.ofInt 64 1)).toNat = b % 2 := by
    rw [BitVec.toNat_and, BitVec.ofInt_natCast, BitVec.toNat_ofNat, show (BitVec.ofInt 64 1).toNat = 2 ^ 1 - 1 by decide, Nat.and_two_pow_sub_one_eq_mod]
    show b % 2 ^ 64 % 2 ^ 1 = b % 2
    omega
  show IntKind.i64.wrap (((BitVec.ofInt 64 (b : Int)) &&& (BitVec.ofInt 64 1)).toNat : Int) = _
  rw [e, IntKind.wrap_i64]
  omega
def gmul (a b : Int) : Int := ((Gf.mul (modb a) (modb b) : Nat) : Int)
theorem gmul_range (a b : Int) : 0 ≤ gmul a b ∧ gmul a b ≤ 255 := by
  unfold gmul
  have := Gf.mul_lt (modb b) (modb_lt a)
  omega
theorem modb_gmul (a b : Int) : modb (gmul a b) = Gf.mul (modb a) (modb b) := modb_nat (Gf.mul_lt _ (modb_lt a))

theorem spec_l05Mod_eq {a : Int} (h0 : -9223372036854775808 ≤ a) (h1 : a ≤ 9223372036854775807) : spec_l05Mod.f a = some ((modb a : Nat) : Int) := by
  have e : Int.tmod a 256 = if a < 0 ∧ a % 256 ≠ 0 then a % 256 - 256 else a % 256 := by
    rcases Int.lt_or_le a 0 with h | h
    · obtain ⟨n, rfl⟩ : ∃ n : Nat, a = -(n : Int) := ⟨(-a).toNat, by omega⟩
      rw [Int.neg_tmod, Int.tmod_eq_emod_of_nonneg (by omega)]
      split <;> omega
    · rw [Int.tmod_eq_emod_of_nonneg h, if_neg (by omega)]
  unfold spec_l05Mod.f modb
  rw [e]
  by_cases c : a < 0 ∧ a % 256 ≠ 0
  · rw [if_pos c, if_pos (by omega), w64 (by omega) (by omega)]
    congr 1
    omega
  · rw [if_neg c, if_neg (by omega)]
    congr 1
    omega
theorem spec_MulG_l0 (n : Nat) : ∀ (a b out : Nat), a < 256 → b < 2 ^ n → n ≤ 8 → out < 256 → Ev (fun k => spec_MulG.l0 k (a : Int) (b : Int) (out : Int)) ((out ^^^ Gf.gm n a b : Nat) : Int) := by
  induction n with
  | zero =>
    intro a b out ha hb hn ho
    have hb0 : b = 0 := by omega
    subst hb0
    exact Ev.step (f := fun _ => some (out : Int)) (fun k => by simp only [spec_MulG.l0]; rw [if_neg (by omega)]) (by simpa [Gf.gm] using Ev.now _)
  | succ n ih =>
    intro a b out ha hb hn ho
    by_cases hb0 : b = 0
    · subst hb0
      have hz : Gf.gm (n + 1) a 0 = 0 := by
        have : ∀ n a, Gf.gm n a 0 = 0 := by
          intro n
          induction n with
          | zero => intro a; rfl
          | succ n ih => intro a; simp [Gf.gm, ih]
        exact this _ _
      rw [hz, Nat.xor_zero]
      exact Ev.step (f := fun _ => some (out : Int)) (fun k => by simp only [spec_MulG.l0]; rw [if_neg (by omega)]) (Ev.now _)
    · have h8 : 2 ^ n ≤ 2 ^ 8 := Nat.pow_le_pow_right (by omega) (by omega)
      have h9 : 2 ^ (n + 1) = 2 * 2 ^ n := by rw [Nat.pow_succ]; omega
      have h10 : 2 ^ (n + 1) ≤ 2 ^ 8 := Nat.pow_le_pow_right (by omega) hn
      have hm : Int.tmod (b : Int) 2 = ((b % 2 : Nat) : Int) := by rw [Int.tmod_eq_emod_of_nonneg (by omega)]; rfl
      have hd : wrap64 (Int.tdiv (b : Int) 2) = ((b / 2 : Nat) : Int) := by rw [Int.tdiv_eq_ediv_of_nonneg (by omega), w64 (by omega) (by omega)]; rfl
      have h2 : wrap64 (2 * (a : Int)) = ((2 * a : Nat) : Int) := by rw [w64 (by omega) (by omega)]; rfl
      have hx : ∀ m : Nat, m < 256 → (out ^^^ (if b % 2 = 1 then a else 0) ^^^ Gf.gm n (Gf.xt a) (b / 2)) = (out ^^^ Gf.gm (n + 1) a b) := by
        intro m _
        rw [Gf.gm, Nat.xor_assoc]
      have hxa : Go.bits .xor .i64 (out : Int) (a : Int) = ((out ^^^ a : Nat) : Int) := bits_xor64 (by omega) (by omega)
      have hx5 : Go.bits .xor .i64 ((2 * a : Nat) : Int) 285 = ((2 * a ^^^ 285 : Nat) : Int) := bits_xor64 (b := 285) (by omega) (by omega)
      rw [← hx 0 (by omega)]
      have hlt : out ^^^ (if b % 2 = 1 then a else 0) < 256 := Gf.xor_lt (n := 8) ho (by split <;> omega)
      refine Ev.step (f := fun k => spec_MulG.l0 k ((Gf.xt a : Nat) : Int) ((b / 2 : Nat) : Int) ((out ^^^ (if b % 2 = 1 then a else 0) : Nat) : Int)) (fun k => ?_) (ih _ _ _ (Gf.xt_lt ha) (by omega) (by omega) hlt)
      simp only [spec_MulG.l0, hm, hd, h2, hxa, hx5]
      rw [if_pos (by omega)]
      unfold Gf.xt
      by_cases c1 : b % 2 = 1 <;> by_cases c2 : 255 < 2 * a
      · rw [if_pos (by omega), if_pos (by omega), if_pos c1, if_pos c2]
      · rw [if_pos (by omega), if_neg (by omega), if_pos c1, if_neg c2]
      · rw [if_neg (by omega), if_pos (by omega), if_neg c1, if_pos c2, Nat.xor_zero]
      · rw [if_neg (by omega), if_neg (by omega), if_neg c1, if_neg c2, Nat.xor_zero]
theorem spec_MulG_ev {a b : Int} (a0 : -9223372036854775808 ≤ a) (a1 : a ≤ 9223372036854775807) (b0 : -9223372036854775808 ≤ b) (b1 : b ≤ 9223372036854775807) : Ev (fun k => spec_MulG.f k a b) (gmul a b) := by
  have h := spec_MulG_l0 8 (modb a) (modb b) 0 (modb_lt a) (modb_lt b) (Nat.le_refl _) (by omega)
  rw [Nat.zero_xor] at h
  refine Ev.congr (fun k => ?_) h
  unfold spec_MulG.f
  rw [spec_l05Mod_eq a0 a1, spec_l05Mod_eq b0 b1]
  rfl

theorem impl_MulG_l0 (n : Nat) : ∀ (a b out : Nat), a < 256 → b < 2 ^ n → n ≤ 8 → out < 256 → Ev (fun k => impl_MulG.l0 k (a : Int) (b : Int) (out : Int)) ((out ^^^ Gf.gm n a b : Nat) : Int) := by
  induction n with
  | zero =>
    intro a b out ha hb hn ho
    have hb0 : b = 0 := by omega
    subst hb0
    exact Ev.step (f := fun _ => some (out : Int)) (fun k => by simp only [impl_MulG.l0]; rw [if_neg (by omega)]) (by simpa [Gf.gm] using Ev.now _)
  | succ n ih =>
    intro a b out ha hb hn ho
    by_cases hb0 : b = 0
    · subst hb0
      have hz : Gf.gm (n + 1) a 0 = 0 := by
        have : ∀ n a, Gf.gm n a 0 = 0 := by
          intro n
          induction n with
          | zero => intro a; rfl
          | succ n ih => intro a; simp [Gf.gm, ih]
        exact this _ _
      rw [hz, Nat.xor_zero]
      exact Ev.step (f := fun _ => some (out : Int)) (fun k => by simp only [impl_MulG.l0]; rw [if_neg (by omega)]) (Ev.now _)
    · have h8 : 2 ^ n ≤ 2 ^ 8 := Nat.pow_le_pow_right (by omega) (by omega)
      have h9 : 2 ^ (n + 1) = 2 * 2 ^ n := by rw [Nat.pow_succ]; omega
      have h10 : 2 ^ (n + 1) ≤ 2 ^ 8 := Nat.pow_le_pow_right (by omega) hn
      have hm : Go.bits .and .i64 (b : Int) 1 = ((b % 2 : Nat) : Int) := bits_and1 (by omega)
      have hd : (b : Int) / 2 = ((b / 2 : Nat) : Int) := rfl
      have h2 : wrap64 ((a : Int) * 2) = ((2 * a : Nat) : Int) := by rw [w64 (by omega) (by omega)]; omega
      have hx : (out ^^^ (if b % 2 = 1 then a else 0) ^^^ Gf.gm n (Gf.xt a) (b / 2)) = (out ^^^ Gf.gm (n + 1) a b) := by
        rw [Gf.gm, Nat.xor_assoc]
      have hxa : Go.bits .xor .i64 (out : Int) (a : Int) = ((out ^^^ a : Nat) : Int) := bits_xor64 (by omega) (by omega)
      have hx5 : Go.bits .xor .i64 ((2 * a : Nat) : Int) 285 = ((2 * a ^^^ 285 : Nat) : Int) := bits_xor64 (b := 285) (by omega) (by omega)
      rw [← hx]
      have hlt : out ^^^ (if b % 2 = 1 then a else 0) < 256 := Gf.xor_lt (n := 8) ho (by split <;> omega)
      refine Ev.step (f := fun k => impl_MulG.l0 k ((Gf.xt a : Nat) : Int) ((b / 2 : Nat) : Int) ((out ^^^ (if b % 2 = 1 then a else 0) : Nat) : Int)) (fun k => ?_) (ih _ _ _ (Gf.xt_lt ha) (by omega) (by omega) hlt)
      simp only [impl_MulG.l0, hm, hd, h2, hxa, hx5]
      rw [if_pos (by omega)]
      unfold Gf.xt
      by_cases c1 : b % 2 = 1 <;> by_cases c2 : 255 < 2 * a
      · rw [if_pos (by omega), if_pos (by omega), if_pos c1, if_pos c2]
      · rw [if_pos (by omega), if_neg (by omega), if_pos c1, if_neg c2]
      · rw [if_neg (by omega), if_pos (by omega), if_neg c1, if_pos c2, Nat.xor_zero]
      · rw [if_neg (by omega), if_neg (by omega), if_neg c1, if_neg c2, Nat.xor_zero]
theorem impl_MulG_ev {a b : Int} (a0 : -9223372036854775808 ≤ a) (a1 : a ≤ 9223372036854775807) (b0 : -9223372036854775808 ≤ b) (b1 : b ≤ 9223372036854775807) : Ev (fun k => impl_MulG.f k a b) (gmul a b) := by
  have h := impl_MulG_l0 8 (modb a) (modb b) 0 (modb_lt a) (modb_lt b) (Nat.le_refl _) (by omega)
  rw [Nat.zero_xor] at h
  refine Ev.congr (fun k => ?_) h
  unfold impl_MulG.f
  rw [bits_and255 a0 a1, bits_and255 b0 b1]
  rfl

/-! ### matrices of bytes -/
def xs : Nat → (Nat → Nat) → Nat
  | 0, _ => 0
  | n + 1, h => xs n h ^^^ h n
theorem xs_lt {h : Nat → Nat} : ∀ {n : Nat}, (∀ k, k < n → h k < 256) → xs n h < 256
  | 0, _ => by simp [xs]
  | n + 1, H => Gf.xor_lt (n := 8) (xs_lt (fun k hk => H k (by omega))) (H n (by omega))
theorem xs_congr {f g : Nat → Nat} : ∀ {n : Nat}, (∀ k, k < n → f k = g k) → xs n f = xs n g
  | 0, _ => rfl
  | n + 1, H => by rw [xs, xs, xs_congr (fun k hk => H k (by omega)), H n (by omega)]
theorem xs_zero : ∀ n : Nat, xs n (fun _ => 0) = 0
  | 0 => rfl
  | n + 1 => by rw [xs, xs_zero n, Nat.xor_self]
theorem xs_xor (f g : Nat → Nat) : ∀ n : Nat, xs n (fun k => f k ^^^ g k) = xs n f ^^^ xs n g
  | 0 => by simp [xs]
  | n + 1 => by
    rw [xs, xs, xs, xs_xor f g n]
    ac_rfl
theorem mul_xs (a : Nat) (h : Nat → Nat) : ∀ n : Nat, Gf.mul a (xs n h) = xs n (fun k => Gf.mul a (h k))
  | 0 => Gf.mul_zero_right a
  | n + 1 => by rw [xs, xs, Gf.mul_xor_right, mul_xs a h n]
theorem xs_mul (b : Nat) {h : Nat → Nat} : ∀ {n : Nat}, (∀ k, k < n → h k < 256) → Gf.mul (xs n h) b = xs n (fun k => Gf.mul (h k) b)
  | 0, _ => Gf.mul_zero_left b
  | n + 1, H => by rw [xs, xs, Gf.mul_xor_left b (xs_lt (fun k hk => H k (by omega))) (H n (by omega)), xs_mul b (fun k hk => H k (by omega))]
theorem xs_swap (m : Nat) (h : Nat → Nat → Nat) : ∀ n : Nat, xs n (fun k => xs m (fun l => h k l)) = xs m (fun l => xs n (fun k => h k l))
  | 0 => (xs_zero m).symm
  | n + 1 => by
    rw [xs, xs_swap m h n]
    exact (xs_xor _ _ m).symm
theorem xs_off {j : Nat} (f : Nat → Nat) : ∀ {n : Nat}, n ≤ j → xs n (fun k => if k = j then f k else 0) = 0
  | 0, _ => rfl
  | n + 1, h => by rw [xs, xs_off f (by omega), if_neg (by omega), Nat.xor_self]
theorem xs_one {j : Nat} (f : Nat → Nat) : ∀ {n : Nat}, j < n → xs n (fun k => if k = j then f k else 0) = f j
  | n + 1, h => by
    rw [xs]
    by_cases e : n = j
    · subst e
      rw [if_pos rfl, xs_off f (Nat.le_refl _), Nat.zero_xor]
    · rw [if_neg e, xs_one f (by omega), Nat.xor_zero]
def mk (r c : Nat) (f : Nat → Nat → Nat) : List (List Int) := (List.range r).map fun i => (List.range c).map fun j => ((f i j : Nat) : Int)
def ent (m : List (List Int)) (i j : Nat) : Nat := ((m.getD i []).getD j 0).toNat
theorem mk_length (r c : Nat) (f : Nat → Nat → Nat) : (mk r c f).length = r := by simp [mk]
theorem mk_get (r c : Nat) (f : Nat → Nat → Nat) {i : Nat} (hi : i < r) : (mk r c f).getD i [] = (List.range c).map fun j => ((f i j : Nat) : Int) := by
  unfold mk
  rw [List.getD_eq_getElem?_getD, List.getElem?_map, List.getElem?_range hi]
  rfl
theorem headD_getD (m : List (List Int)) : m.headD [] = m.getD 0 [] := by cases m <;> rfl
theorem mk_head (r c : Nat) (f : Nat → Nat → Nat) (hr : 0 < r) : ((mk r c f).headD []).length = c := by rw [headD_getD, mk_get r c f hr]; simp
theorem ent_mk (r c : Nat) (f : Nat → Nat → Nat) {i j : Nat} (hi : i < r) (hj : j < c) : ent (mk r c f) i j = f i j := by
  unfold ent
  rw [mk_get r c f hi, List.getD_eq_getElem?_getD, List.getElem?_map, List.getElem?_range hj]
  rfl
theorem mk_congr {r c : Nat} {f g : Nat → Nat → Nat} (H : ∀ i, i < r → ∀ j, j < c → f i j = g i j) : mk r c f = mk r c g := by
  unfold mk
  refine List.map_congr_left (fun i hi => List.map_congr_left (fun j hj => ?_))
  rw [H i (List.mem_range.mp hi) j (List.mem_range.mp hj)]
theorem okM_mk {r c : Nat} {f : Nat → Nat → Nat} (h1 : 1 ≤ r) (h2 : r ≤ 8) (h3 : 1 ≤ c) (h4 : c ≤ 8) (H : ∀ i, i < r → ∀ j, j < c → f i j < 256) : okM (mk r c f) = true := by
  unfold okM
  rw [mk_length, mk_head r c f (by omega)]
  have e1 : in18 r = true := decide_eq_true ⟨h1, h2⟩
  have e2 : in18 c = true := decide_eq_true ⟨h3, h4⟩
  rw [e1, e2, Bool.true_and, Bool.true_and, List.all_eq_true]
  intro x hx
  unfold mk at hx
  obtain ⟨i, hi, rfl⟩ := List.mem_map.mp hx
  unfold okR
  rw [Bool.and_eq_true]
  refine ⟨by simp, ?_⟩
  rw [List.all_eq_true]
  intro y hy
  obtain ⟨j, hj, rfl⟩ := List.mem_map.mp hy
  have := H i (List.mem_range.mp hi) j (List.mem_range.mp hj)
  unfold inB
  exact decide_eq_true (by omega)
theorem of_okM {m : List (List Int)} (h : okM m = true) : 1 ≤ m.length ∧ m.length ≤ 8 ∧ 1 ≤ (m.headD []).length ∧ (m.headD []).length ≤ 8 ∧ (∀ i, i < m.length → (m.getD i []).length = (m.headD []).length ∧ ∀ x ∈ m.getD i [], 0 ≤ x ∧ x ≤ 255) := by
  unfold okM at h
  rw [Bool.and_eq_true, Bool.and_eq_true] at h
  obtain ⟨⟨h1, h2⟩, h3⟩ := h
  have h1 := of_decide_eq_true h1
  have h2 := of_decide_eq_true h2
  refine ⟨h1.1, h1.2, h2.1, h2.2, fun i hi => ?_⟩
  rw [List.all_eq_true] at h3
  have e : m.getD i [] = m[i] := by rw [List.getD_eq_getElem?_getD, List.getElem?_eq_getElem hi]; rfl
  have h4 := h3 _ (List.getElem_mem hi)
  unfold okR at h4
  rw [Bool.and_eq_true] at h4
  rw [e]
  refine ⟨of_decide_eq_true h4.1, fun x hx => ?_⟩
  exact of_decide_eq_true (List.all_eq_true.mp h4.2 x hx)
theorem rd_ent {m : List (List Int)} (h : okM m = true) {i j : Nat} (hi : i < m.length) (hj : j < (m.headD []).length) : rd (rd_L2 m (i : Int)) (j : Int) = ((ent m i j : Nat) : Int) ∧ ent m i j < 256 := by
  obtain ⟨_, _, _, _, H⟩ := of_okM h
  obtain ⟨h1, h2⟩ := H i hi
  unfold rd rd_L2 ent
  rw [Int.toNat_natCast, Int.toNat_natCast]
  have hj' : j < (m.getD i []).length := by omega
  have e : (m.getD i []).getD j 0 = (m.getD i [])[j] := by rw [List.getD_eq_getElem?_getD, List.getElem?_eq_getElem hj']; rfl
  have := h2 _ (List.getElem_mem hj')
  rw [e]
  omega
theorem rdL_len {m : List (List Int)} (h : okM m = true) {i : Nat} (hi : i < m.length) : (rd_L2 m (i : Int)).length = (m.headD []).length := by
  obtain ⟨_, _, _, _, H⟩ := of_okM h
  unfold rd_L2
  rw [Int.toNat_natCast]
  exact (H i hi).1
theorem eq_mk {m : List (List Int)} (h : okM m = true) : m = mk m.length (m.headD []).length (ent m) := by
  obtain ⟨_, _, _, _, H⟩ := of_okM h
  refine List.ext_getElem (by rw [mk_length]) (fun i h1 h2 => ?_)
  have e : m[i] = m.getD i [] := by rw [List.getD_eq_getElem?_getD, List.getElem?_eq_getElem h1]; rfl
  have e2 : (mk m.length (m.headD []).length (ent m))[i] = (mk m.length (m.headD []).length (ent m)).getD i [] := by rw [List.getD_eq_getElem?_getD, List.getElem?_eq_getElem h2]; rfl
  rw [e, e2, mk_get _ _ _ h1]
  obtain ⟨h3, h4⟩ := H i h1
  refine List.ext_getElem (by simpa using h3) (fun j h5 h6 => ?_)
  have := h4 _ (List.getElem_mem h5)
  have h8 : (m.getD i []).getD j 0 = (m.getD i [])[j] := by rw [List.getD_eq_getElem?_getD (l := m.getD i []), List.getElem?_eq_getElem h5]; rfl
  have h7 : ent m i j = ((m.getD i [])[j]).toNat := by unfold ent; rw [h8]
  rw [List.getElem_map, List.getElem_range, h7]
  omega
theorem gmul_nn {a b : Nat} (ha : a < 256) (hb : b < 256) : gmul (a : Int) (b : Int) = ((Gf.mul a b : Nat) : Int) := by
  unfold gmul
  rw [modb_nat ha, modb_nat hb]
def mulM (a b : List (List Int)) : List (List Int) := mk a.length (b.headD []).length (fun i j => xs b.length (fun k => Gf.mul (ent a i k) (ent b k j)))
def mulR (a b : List (List Int)) : List (List Int) := if okM a = true ∧ okM b = true ∧ (a.headD []).length = b.length then mulM a b else []
theorem range_map_succ {α : Type} (F : Nat → α) (n : Nat) : (List.range (n + 1)).map F = (List.range n).map F ++ [F n] := by rw [List.range_succ, List.map_append]; rfl
theorem mulR_mk {r n c : Nat} {f g : Nat → Nat → Nat} (hr : 1 ≤ r ∧ r ≤ 8) (hn : 1 ≤ n ∧ n ≤ 8) (hc : 1 ≤ c ∧ c ≤ 8) (hf : ∀ i, i < r → ∀ j, j < n → f i j < 256) (hg : ∀ i, i < n → ∀ j, j < c → g i j < 256) :
    mulR (mk r n f) (mk n c g) = mk r c (fun i j => xs n (fun k => Gf.mul (f i k) (g k j))) := by
  unfold mulR
  rw [if_pos ⟨okM_mk hr.1 hr.2 hn.1 hn.2 hf, okM_mk hn.1 hn.2 hc.1 hc.2 hg, by rw [mk_head r n f (by omega), mk_length]⟩]
  unfold mulM
  rw [mk_length, mk_length, mk_head n c g (by omega)]
  refine mk_congr (fun i hi j hj => xs_congr (fun k hk => ?_))
  rw [ent_mk r n f hi hk, ent_mk n c g hk hj]
theorem mul_lt_of {n : Nat} {f g : Nat → Nat} (hf : ∀ k, k < n → f k < 256) : xs n (fun k => Gf.mul (f k) (g k)) < 256 := xs_lt (fun k hk => Gf.mul_lt _ (hf k hk))
def idf (i j : Nat) : Nat := if i = j then 1 else 0
theorem idf_lt (i j : Nat) : idf i j < 256 := by unfold idf; split <;> omega

/-! ### lists of bytes as numbers -/
def ints (l : List UInt8) : List Int := l.map fun b => (b.toNat : Int)
theorem ints_length (l : List UInt8) : (ints l).length = l.length := by simp [ints]
theorem ints_app (l m : List UInt8) : ints (l ++ m) = ints l ++ ints m := by simp [ints]
theorem bytesOf_ints (s : ByteArray) : bytesOf s = ints s.data.toList := rfl
theorem str_ints (l : List UInt8) : strOfNums (ints l) = ⟨l.toArray⟩ := by
  unfold strOfNums ints
  congr 1
  rw [List.map_map]
  congr 1
  conv => rhs; rw [← List.map_id l]
  refine List.map_congr_left (fun b _ => ?_)
  simp
theorem set_mid {α : Type} (A : List α) (x v : α) (B : List α) : (A ++ x :: B).set A.length v = A ++ v :: B := by simp
theorem rd_mid (A : List Int) (x : Int) (B : List Int) : rd (A ++ x :: B) (A.length : Int) = x := by simp [rd]
theorem bt_mid (s : ByteArray) {A : List UInt8} {x : UInt8} {B : List UInt8} (h : s.data.toList = A ++ x :: B) : bt s (A.length : Int) = (x.toNat : Int) := by
  have hl : A.length < s.size := by
    have h1 : s.data.toList.length = s.size := rfl
    rw [h] at h1
    simp at h1
    omega
  unfold bt
  rw [dif_pos (by simpa using hl)]
  have e : s.data.toList[A.length]'(by simpa using hl) = x := by simp [h]
  show (((s.data[A.length]'hl).toNat : Nat) : Int) = _
  rw [← e]
  simp
theorem size_of_list (s : ByteArray) {l : List UInt8} (h : s.data.toList = l) : s.size = l.length := by
  have h1 : s.data.toList.length = s.size := rfl
  rw [h] at h1
  omega

/-! ### a text so many times -/
def mulB (a : Nat) (b : UInt8) : UInt8 := UInt8.ofNat (Gf.mul a b.toNat)
def mulL (a : Nat) (l : List UInt8) : List UInt8 := l.map (mulB a)
def mulT (a : Nat) (s : ByteArray) : ByteArray := ⟨(mulL a s.data.toList).toArray⟩
theorem mulB_nat {a : Nat} (ha : a < 256) (b : UInt8) : (mulB a b).toNat = Gf.mul a b.toNat := by
  have := Gf.mul_lt b.toNat ha
  simp only [mulB, UInt8.toNat_ofNat']
  omega
theorem gmul_byte (a : Int) (b : UInt8) : gmul a (b.toNat : Int) = ((mulB (modb a) b).toNat : Int) := by
  have := b.toNat_lt
  rw [mulB_nat (modb_lt a)]
  unfold gmul
  rw [modb_nat (by omega)]

theorem spec_MulText_l0 {a : Int} (a0 : -9223372036854775808 ≤ a) (a1 : a ≤ 9223372036854775807) : ∀ (rest done : List UInt8), done.length + rest.length ≤ 1073741824 →
    Ev (fun k => spec_MulText.l0 k a (ints (done ++ rest)) (done.length : Int)) (strOfNums (ints (done ++ mulL (modb a) rest))) := by
  intro rest
  induction rest with
  | nil =>
    intro done _
    refine Ev.step (f := fun _ => some (strOfNums (ints (done ++ mulL (modb a) [])))) (fun k => ?_) (Ev.now _)
    simp only [spec_MulText.l0]
    rw [if_neg (by rw [ints_length]; simp)]
    rfl
  | cons b rest ih =>
    intro done hl
    have hb := b.toNat_lt
    simp only [List.length_cons] at hl
    refine Ev.step (f := fun k => (spec_MulG.f k a (b.toNat : Int)).bind fun t => spec_MulText.l0 k a ((ints (done ++ b :: rest)).set done.length (t % 256)) ((done.length + 1 : Nat) : Int)) (fun k => ?_) (Ev.bind (spec_MulG_ev a0 a1 (by omega) (by omega)) ?_)
    · simp only [spec_MulText.l0]
      rw [if_pos (by rw [ints_length, List.length_append, List.length_cons]; omega), if_pos (by omega), wsucc (by omega)]
      have e : rd (ints (done ++ b :: rest)) (done.length : Int) = (b.toNat : Int) := by
        have := rd_mid (ints done) (b.toNat : Int) (ints rest)
        rw [ints_length] at this
        rw [ints_app]
        exact this
      rw [e, wnat (by omega)]
      rfl
    · have e : (ints (done ++ b :: rest)).set done.length (gmul a (b.toNat : Int) % 256) = ints ((done ++ [mulB (modb a) b]) ++ rest) := by
        have h1 := set_mid (ints done) (b.toNat : Int) (gmul a (b.toNat : Int) % 256) (ints rest)
        rw [ints_length] at h1
        have h2 := gmul_range a (b.toNat : Int)
        rw [ints_app]
        refine Eq.trans h1 ?_
        rw [show gmul a (b.toNat : Int) % 256 = ((mulB (modb a) b).toNat : Int) by rw [← gmul_byte]; omega]
        simp [ints]
      rw [e]
      have h := ih (done ++ [mulB (modb a) b]) (by simp; omega)
      rw [List.length_append] at h
      rw [show done ++ mulL (modb a) (b :: rest) = done ++ [mulB (modb a) b] ++ mulL (modb a) rest by simp [mulL]]
      exact h
theorem spec_MulText_ev {a : Int} (a0 : -9223372036854775808 ≤ a) (a1 : a ≤ 9223372036854775807) (s : ByteArray) (hs : s.size ≤ 1073741824) : Ev (fun k => spec_MulText.f k a s) (mulT (modb a) s) := by
  unfold spec_MulText.f
  refine Ev.pos (by omega) ?_
  have h := spec_MulText_l0 a0 a1 s.data.toList [] (by rw [str_len]; simpa using hs)
  rw [str_ints] at h
  exact h

theorem impl_MulText_l0 {a : Int} (a0 : -9223372036854775808 ≤ a) (a1 : a ≤ 9223372036854775807) (s : ByteArray) (hs : s.size ≤ 1073741824) : ∀ (rest pre done : List UInt8), s.data.toList = pre ++ rest → pre.length = done.length →
    Ev (fun k => impl_MulText.l0 k a s (ints done ++ List.replicate rest.length 0) (s.size : Int) (done.length : Int)) (strOfNums (ints (done ++ mulL (modb a) rest))) := by
  intro rest
  induction rest with
  | nil =>
    intro pre done he hp
    have hsz := size_of_list s he
    simp only [List.append_nil] at hsz
    refine Ev.step (f := fun _ => some (strOfNums (ints (done ++ mulL (modb a) [])))) (fun k => ?_) (Ev.now _)
    simp only [impl_MulText.l0]
    rw [if_neg (by omega)]
    simp [mulL]
  | cons b rest ih =>
    intro pre done he hp
    have hb := b.toNat_lt
    have hsz := size_of_list s he
    simp only [List.length_append, List.length_cons] at hsz
    refine Ev.step (f := fun k => (impl_MulG.f k a (b.toNat : Int)).bind fun t => impl_MulText.l0 k a s ((ints done ++ 0 :: List.replicate rest.length 0).set done.length (t % 256)) (s.size : Int) ((done.length + 1 : Nat) : Int)) (fun k => ?_) (Ev.bind (impl_MulG_ev a0 a1 (by omega) (by omega)) ?_)
    · simp only [impl_MulText.l0]
      have e := bt_mid s he
      rw [hp] at e
      rw [if_pos (by omega), if_pos (by omega), if_pos (by omega), wsucc (by omega), e, wnat (by omega)]
      congr 1
      funext t
      rw [if_pos (by rw [List.length_append, ints_length, List.length_replicate, List.length_cons]; omega)]
      rfl
    · have e : (ints done ++ 0 :: List.replicate rest.length 0).set done.length (gmul a (b.toNat : Int) % 256) = ints (done ++ [mulB (modb a) b]) ++ List.replicate rest.length 0 := by
        have h1 := set_mid (ints done) 0 (gmul a (b.toNat : Int) % 256) (List.replicate rest.length 0)
        rw [ints_length] at h1
        have h2 := gmul_range a (b.toNat : Int)
        rw [h1, show gmul a (b.toNat : Int) % 256 = ((mulB (modb a) b).toNat : Int) by rw [← gmul_byte]; omega]
        simp [ints]
      rw [e]
      have h := ih (pre ++ [b]) (done ++ [mulB (modb a) b]) (by rw [he]; simp) (by simp; omega)
      rw [List.length_append] at h
      rw [show done ++ mulL (modb a) (b :: rest) = done ++ [mulB (modb a) b] ++ mulL (modb a) rest by simp [mulL]]
      exact h
theorem impl_MulText_ev {a : Int} (a0 : -9223372036854775808 ≤ a) (a1 : a ≤ 9223372036854775807) (s : ByteArray) (hs : s.size ≤ 1073741824) : Ev (fun k => impl_MulText.f k a s) (mulT (modb a) s) := by
  unfold impl_MulText.f
  refine Ev.pos (by omega) (Ev.pos (by omega) (Ev.some_bind rfl ?_))
  have h := impl_MulText_l0 a0 a1 s hs s.data.toList [] [] rfl rfl
  rw [str_len, str_ints] at h
  simp only [ints, List.map_nil, List.nil_append, List.length_nil] at h
  simp only [Int.toNat_natCast, List.length_replicate]
  exact h

theorem bits_xor8 (a b : UInt8) : Go.bits .xor .u8 (a.toNat : Int) (b.toNat : Int) = ((a ^^^ b).toNat : Int) := by
  have ha := a.toNat_lt
  have hb := b.toNat_lt
  have hx : a.toNat ^^^ b.toNat < 2 ^ 8 := Nat.xor_lt_two_pow (by omega) (by omega)
  have e : (BitVec.ofNat 8 a.toNat ^^^ BitVec.ofNat 8 b.toNat).toNat = a.toNat ^^^ b.toNat := by rw [BitVec.toNat_xor, BitVec.toNat_ofNat, BitVec.toNat_ofNat, Nat.mod_eq_of_lt (by omega), Nat.mod_eq_of_lt (by omega)]
  show IntKind.u8.wrap (((BitVec.ofInt 8 (a.toNat : Int)) ^^^ (BitVec.ofInt 8 (b.toNat : Int))).toNat : Int) = _
  rw [BitVec.ofInt_natCast, BitVec.ofInt_natCast, e, IntKind.wrap_u8, UInt8.toNat_xor]
  omega

/-! ### sums of texts -/
def addL : List UInt8 → List UInt8 → List UInt8
  | [], ys => ys
  | xs, [] => xs
  | x :: xs, y :: ys => (x ^^^ y) :: addL xs ys
def addT (a b : ByteArray) : ByteArray := ⟨(addL a.data.toList b.data.toList).toArray⟩
theorem addL_nil (xs : List UInt8) : addL xs [] = xs := by cases xs <;> rfl
theorem nil_addL (xs : List UInt8) : addL [] xs = xs := rfl
theorem addL_comm : ∀ xs ys : List UInt8, addL xs ys = addL ys xs
  | [], ys => by rw [addL_nil]; rfl
  | x :: xs, [] => rfl
  | x :: xs, y :: ys => by simp only [addL]; rw [addL_comm xs ys, UInt8.xor_comm]
theorem addL_length : ∀ xs ys : List UInt8, (addL xs ys).length = max xs.length ys.length
  | [], ys => by simp [addL]
  | x :: xs, [] => by simp [addL]
  | x :: xs, y :: ys => by simp only [addL, List.length_cons, addL_length xs ys]; omega
theorem addL_zeros : ∀ (xs ys : List UInt8) (n : Nat), xs.length + n = max xs.length ys.length → addL (xs ++ List.replicate n 0) ys = addL xs ys
  | [], [], 0, _ => rfl
  | [], [], n + 1, h => by simp at h
  | [], y :: ys, 0, h => by simp at h
  | [], y :: ys, n + 1, h => by
    have ih := addL_zeros [] ys n (by simp at h ⊢; exact h)
    simp only [List.nil_append, List.replicate_succ, addL] at ih ⊢
    rw [ih, UInt8.zero_xor]
  | x :: xs, [], n, h => by
    have : n = 0 := by simp at h; exact h
    subst this
    simp
  | x :: xs, y :: ys, n, h => by
    simp only [List.cons_append, addL]
    rw [addL_zeros xs ys n (by simp only [List.length_cons] at h; omega)]

theorem spec_AddText_l0 (s : ByteArray) (hs : s.size ≤ 1073741824) : ∀ (rb rest pre done : List UInt8), s.data.toList = pre ++ rb → pre.length = done.length → rb.length ≤ rest.length →
    Ev (fun k => spec_AddText.l0 k s (ints (done ++ rest)) (done.length : Int)) (strOfNums (ints (done ++ addL rest rb))) := by
  intro rb
  induction rb with
  | nil =>
    intro rest pre done he hp hr
    have hsz := size_of_list s he
    simp only [List.append_nil] at hsz
    refine Ev.step (f := fun _ => some (strOfNums (ints (done ++ addL rest [])))) (fun k => ?_) (Ev.now _)
    simp only [spec_AddText.l0]
    rw [if_neg (by omega), addL_nil]
  | cons b rb ih =>
    intro rest pre done he hp hr
    have hsz := size_of_list s he
    simp only [List.length_append, List.length_cons] at hsz
    cases rest with
    | nil => simp at hr
    | cons r rest =>
      simp only [List.length_cons] at hr
      have h := ih rest (pre ++ [b]) (done ++ [r ^^^ b]) (by rw [he]; simp) (by simp; omega) (by omega)
      rw [List.length_append] at h
      refine Ev.step (fun k => ?_) (by rw [show done ++ addL (r :: rest) (b :: rb) = done ++ [r ^^^ b] ++ addL rest rb by simp [addL]]; exact h)
      simp only [spec_AddText.l0]
      have e := bt_mid s he
      rw [hp] at e
      have e2 : rd (ints (done ++ r :: rest)) (done.length : Int) = (r.toNat : Int) := by
        have := rd_mid (ints done) (r.toNat : Int) (ints rest)
        rw [ints_length] at this
        rw [ints_app]
        exact this
      rw [if_pos (by omega), if_pos (by omega), if_pos (by rw [ints_length, List.length_append, List.length_cons]; omega), wsucc (by omega), e, e2, bits_xor8]
      have h1 := set_mid (ints done) (r.toNat : Int) ((r ^^^ b).toNat : Int) (ints rest)
      rw [ints_length] at h1
      have e3 : (ints (done ++ r :: rest)).set done.length ((r ^^^ b).toNat : Int) = ints (done ++ [r ^^^ b] ++ rest) := by
        rw [ints_app]
        refine Eq.trans h1 ?_
        simp [ints]
      rw [show ((done.length : Int)).toNat = done.length from Int.toNat_natCast _, e3]
      rfl
theorem spec_AddText_j0 (a b : ByteArray) (ha : a.size ≤ 1073741824) (hb : b.size ≤ a.size) : Ev (fun k => spec_AddText.j0 k a b) (addT a b) := by
  have h := spec_AddText_l0 b (by omega) b.data.toList a.data.toList [] [] rfl rfl hb
  rw [str_ints] at h
  refine Ev.step (fun k => ?_) h
  simp only [spec_AddText.j0]
  rw [if_pos (by omega)]
  rfl
theorem spec_AddText_ev (a b : ByteArray) (ha : a.size ≤ 1073741824) (hb : b.size ≤ 1073741824) : Ev (fun k => spec_AddText.f k a b) (addT a b) := by
  unfold spec_AddText.f
  by_cases h : (a.size : Int) < (b.size : Int)
  · refine Ev.pos h ?_
    rw [show addT a b = addT b a by unfold addT; rw [addL_comm]]
    exact spec_AddText_j0 b a hb (by omega)
  · exact Ev.neg h (spec_AddText_j0 a b ha (by omega))

theorem impl_AddText_l0 (s : ByteArray) (hs : s.size ≤ 1073741824) : ∀ (rb rest pre done : List UInt8), s.data.toList = pre ++ rb → pre.length = done.length → rb.length ≤ rest.length →
    Ev (fun k => impl_AddText.l0 k s (ints (done ++ rest)) (done.length : Int)) (strOfNums (ints (done ++ addL rest rb))) := by
  intro rb
  induction rb with
  | nil =>
    intro rest pre done he hp hr
    have hsz := size_of_list s he
    simp only [List.append_nil] at hsz
    refine Ev.step (f := fun _ => some (strOfNums (ints (done ++ addL rest [])))) (fun k => ?_) (Ev.now _)
    simp only [impl_AddText.l0]
    rw [if_neg (by omega), addL_nil]
  | cons b rb ih =>
    intro rest pre done he hp hr
    have hsz := size_of_list s he
    simp only [List.length_append, List.length_cons] at hsz
    cases rest with
    | nil => simp at hr
    | cons r rest =>
      simp only [List.length_cons] at hr
      have h := ih rest (pre ++ [b]) (done ++ [r ^^^ b]) (by rw [he]; simp) (by simp; omega) (by omega)
      rw [List.length_append] at h
      refine Ev.step (fun k => ?_) (by rw [show done ++ addL (r :: rest) (b :: rb) = done ++ [r ^^^ b] ++ addL rest rb by simp [addL]]; exact h)
      simp only [impl_AddText.l0]
      have e := bt_mid s he
      rw [hp] at e
      have e2 : rd (ints (done ++ r :: rest)) (done.length : Int) = (r.toNat : Int) := by
        have := rd_mid (ints done) (r.toNat : Int) (ints rest)
        rw [ints_length] at this
        rw [ints_app]
        exact this
      rw [if_pos (by omega), if_pos (by omega), if_pos (by rw [ints_length, List.length_append, List.length_cons]; omega), wsucc (by omega), e, e2, bits_xor8]
      have h1 := set_mid (ints done) (r.toNat : Int) ((r ^^^ b).toNat : Int) (ints rest)
      rw [ints_length] at h1
      have e3 : (ints (done ++ r :: rest)).set done.length ((r ^^^ b).toNat : Int) = ints (done ++ [r ^^^ b] ++ rest) := by
        rw [ints_app]
        refine Eq.trans h1 ?_
        simp [ints]
      rw [show ((done.length : Int)).toNat = done.length from Int.toNat_natCast _, e3]
      rfl
theorem impl_AddText_ev (a b : ByteArray) (ha : a.size ≤ 1073741824) (hb : b.size ≤ 1073741824) : Ev (fun k => impl_AddText.f k a b) (addT a b) := by
  have hm : mx (a.size : Int) (b.size : Int) = ((max a.size b.size : Nat) : Int) := by
    unfold mx
    split <;> omega
  unfold impl_AddText.f
  rw [hm]
  refine Ev.pos (by omega) (Ev.pos (by omega) (Ev.some_bind rfl (Ev.pos (by rw [List.length_replicate]; omega) ?_)))
  have hc : copyS (List.replicate (max a.size b.size) 0) a = ints (a.data.toList ++ List.replicate (max a.size b.size - a.size) 0) := by
    unfold copyS
    rw [bytesOf_ints, ints_app, List.drop_replicate]
    simp [ints]
  have h := impl_AddText_l0 b hb b.data.toList (a.data.toList ++ List.replicate (max a.size b.size - a.size) 0) [] [] rfl rfl (by rw [List.length_append, List.length_replicate, str_len, str_len]; omega)
  rw [addL_zeros _ _ _ (by rw [str_len, str_len]; omega), str_ints] at h
  rw [Int.toNat_natCast, hc]
  exact h

/-! ### laws of sums and products of texts -/
theorem addT_list (a b : ByteArray) : (addT a b).data.toList = addL a.data.toList b.data.toList := rfl
theorem mulT_list (x : Nat) (a : ByteArray) : (mulT x a).data.toList = mulL x a.data.toList := rfl
theorem addT_size (a b : ByteArray) : (addT a b).size = max a.size b.size := by
  have h : (addT a b).data.toList.length = (addT a b).size := rfl
  rw [← h, addT_list, addL_length]
  rfl
theorem mulT_size (x : Nat) (a : ByteArray) : (mulT x a).size = a.size := by
  have h : (mulT x a).data.toList.length = (mulT x a).size := rfl
  rw [← h, mulT_list, mulL, List.length_map]
  rfl

/-! ### lists of texts, compared -/
theorem rdB_nat {l : List ByteArray} {i : Nat} (h : i < l.length) : rdOf ByteArray.empty l (i : Int) = l[i] := by
  unfold rdOf
  rw [Int.toNat_natCast, List.getD_eq_getElem?_getD, List.getElem?_eq_getElem h]
  rfl
theorem eqS_ev (l : List ByteArray) (hl : l.length ≤ 4611686018427387904) : Ev (fun k => laws_eqStringS.f k l l) true := by
  have key : ∀ d (i : Nat), i ≤ l.length → l.length - i = d → Ev (fun k => laws_eqStringS.l0 k l l (i : Int)) true := by
    intro d
    induction d with
    | zero =>
      intro i hi hd
      exact Ev.step (f := fun _ => some true) (fun k => by simp only [laws_eqStringS.l0]; rw [if_neg (by omega)]) (Ev.now _)
    | succ d ih =>
      intro i hi hd
      refine Ev.step (fun k => ?_) (ih (i + 1) (by omega) (by omega))
      simp only [laws_eqStringS.l0]
      rw [if_pos (by omega), if_pos (by omega), if_pos (by omega), wsucc (by omega)]
      simp only [if_true]
  unfold laws_eqStringS.f
  simp only [if_true]
  exact key l.length 0 (by omega) (by omega)

/-! ### lists of texts: measured, copied -/
theorem rdB_mid (A : List ByteArray) (x : ByteArray) (B : List ByteArray) : rdOf ByteArray.empty (A ++ x :: B) (A.length : Int) = x := by simp [rdOf]
theorem szStrS_ex (l : List ByteArray) (hl : l.length ≤ 9223372036854775807) (hr : ∀ r ∈ l, r.size ≤ 9223372036854775807) (left : Int) (h0 : 0 ≤ left) (h1 : left ≤ 1099511627776) :
    ∃ r, Ev (fun k => laws_szStringS.f k l left) r ∧ (r < 0 ∨ (0 ≤ r ∧ r ≤ left ∧ (l.length : Int) ≤ left ∧ ∀ x ∈ l, (x.size : Int) ≤ left)) := by
  unfold laws_szStringS.f
  rw [w64 (x := left - (l.length : Int)) (by omega) (by omega)]
  by_cases c : left - (l.length : Int) < 0
  · exact ⟨-1, Ev.pos c (Ev.now _), Or.inl (by omega)⟩
  · have key : ∀ (B A : List ByteArray) (y : Int), l = A ++ B → 0 ≤ y → y ≤ left → ∃ r, Ev (fun k => laws_szStringS.l0 k l y (A.length : Int)) r ∧ (r < 0 ∨ (0 ≤ r ∧ r ≤ y ∧ ∀ x ∈ B, (x.size : Int) ≤ left)) := by
      intro B
      induction B with
      | nil =>
        intro A y h hy0 hy1
        refine ⟨y, Ev.step (f := fun _ => some y) (fun k => ?_) (Ev.now _), Or.inr ⟨hy0, Int.le_refl _, by simp⟩⟩
        simp only [laws_szStringS.l0]
        rw [if_neg (by rw [h]; simp)]
      | cons x B ih =>
        intro A y h hy0 hy1
        have e : l.length = A.length + (B.length + 1) := by rw [h]; simp
        have r : rdOf ByteArray.empty l (A.length : Int) = x := by rw [h]; exact rdB_mid A x B
        have hx : x.size ≤ 9223372036854775807 := hr x (by rw [h]; simp)
        by_cases cx : y - (x.size : Int) < 0
        · refine ⟨-1, Ev.step (f := fun _ => some (-1)) (fun k => ?_) (Ev.now _), Or.inl (by omega)⟩
          simp only [laws_szStringS.l0]
          rw [if_pos (by omega), if_pos (by omega), r, w64 (x := y - (x.size : Int)) (by omega) (by omega), if_pos cx]
        · obtain ⟨q, hq, hq2⟩ := ih (A ++ [x]) (y - (x.size : Int)) (by simp [h]) (by omega) (by omega)
          refine ⟨q, Ev.step (fun k => ?_) hq, ?_⟩
          · simp only [laws_szStringS.l0]
            rw [if_pos (by omega), if_pos (by omega), r, w64 (x := y - (x.size : Int)) (by omega) (by omega), if_neg cx, wsucc (by omega)]
            simp
          · rcases hq2 with hn | ⟨q0, q1, q2⟩
            · exact Or.inl hn
            · refine Or.inr ⟨q0, by omega, fun z hz => ?_⟩
              rcases List.mem_cons.mp hz with rfl | hz
              · omega
              · exact q2 z hz
    obtain ⟨r, h2, h3⟩ := key l [] (left - (l.length : Int)) rfl (by omega) (by omega)
    refine ⟨r, Ev.neg c ?_, ?_⟩
    · simpa using h2
    · rcases h3 with h3 | ⟨h4, h5, h6⟩
      · exact Or.inl h3
      · exact Or.inr ⟨h4, by omega, by omega, h6⟩
theorem toStrS_ev (l : List ByteArray) (hl : l.length ≤ 17592186044416) : Ev (fun k => laws_toStringS.f k l) l := by
  have key : ∀ (B A : List ByteArray), l = A ++ B → Ev (fun k => laws_toStringS.l0 k l (A ++ List.replicate B.length (⟨#[]⟩ : ByteArray)) (A.length : Int)) l := by
    intro B
    induction B with
    | nil =>
      intro A h
      refine Ev.step (f := fun _ => some l) (fun k => ?_) (Ev.now _)
      simp only [laws_toStringS.l0]
      rw [if_neg (by rw [h]; simp)]
      simp [h]
    | cons x B ih =>
      intro A h
      refine Ev.step (fun k => ?_) (ih (A ++ [x]) (by simp [h]))
      have e : l.length = A.length + (B.length + 1) := by rw [h]; simp
      simp only [laws_toStringS.l0]
      rw [if_pos (by omega), if_pos (by omega), if_pos (by simp; omega), wsucc (by omega), Int.toNat_natCast]
      have r : rdOf ByteArray.empty l (A.length : Int) = x := by rw [h]; exact rdB_mid A x B
      rw [r, List.length_cons, List.replicate_succ, set_midI]
      simp
  unfold laws_toStringS.f
  refine Ev.pos (by omega) (Ev.pos (by omega) ?_)
  have z := key l [] rfl
  simpa using z

/-! ### what a matrix makes of texts -/
def tsum : Nat → (Nat → ByteArray) → ByteArray
  | 0, _ => ⟨#[]⟩
  | n + 1, h => addT (tsum n h) (h n)
theorem tsum_size {N : Nat} {h : Nat → ByteArray} : ∀ {n : Nat}, (∀ k, k < n → (h k).size ≤ N) → (tsum n h).size ≤ N
  | 0, _ => Nat.zero_le _
  | n + 1, H => by
    rw [tsum, addT_size]
    have h1 := tsum_size (n := n) (fun k hk => H k (by omega))
    have h2 := H n (by omega)
    omega
def applyM (m : List (List Int)) (u : List ByteArray) : List ByteArray := (List.range m.length).map fun i => tsum u.length (fun j => mulT (ent m i j) (u.getD j ByteArray.empty))
def applyR (m : List (List Int)) (u : List ByteArray) : List ByteArray := if okM m = true ∧ (m.headD []).length = u.length then applyM m u else []
theorem applyR_size (m : List (List Int)) (u : List ByteArray) : (applyR m u).length ≤ 8 := by
  unfold applyR
  by_cases h : okM m = true ∧ (m.headD []).length = u.length
  · rw [if_pos h]
    obtain ⟨_, h2, _⟩ := of_okM h.1
    unfold applyM
    rw [List.length_map, List.length_range]
    exact h2
  · rw [if_neg h]
    simp
theorem unit_size {u : List ByteArray} {N : Nat} (hu : ∀ x ∈ u, x.size ≤ N) (j : Nat) : (u.getD j ByteArray.empty).size ≤ N := by
  rw [List.getD_eq_getElem?_getD]
  by_cases h : j < u.length
  · rw [List.getElem?_eq_getElem h]
    exact hu _ (List.getElem_mem h)
  · rw [List.getElem?_eq_none (by omega)]
    exact Nat.zero_le _

/-! ### impl.ApplyM -/
theorem impl_ApplyM_ev (m : List (List Int)) (u : List ByteArray) (hm : m.length ≤ 1099511627776) (hr : ∀ r ∈ m, r.length ≤ 1099511627776) (hu : ∀ x ∈ u, x.size ≤ 1073741824) : Ev (fun k => impl_ApplyM.f k m u) (applyR m u) := by
  have em := impl_MatrixOk_ev m (by omega) (fun r h => by have := hr r h; omega)
  have bad : Ev (fun k => impl_ApplyM.j0 k m u true) ([] : List ByteArray) := Ev.step (f := fun _ => some []) (fun k => by simp only [impl_ApplyM.j0, if_true]) (Ev.now _)
  unfold impl_ApplyM.f
  refine Ev.bind em ?_
  cases om : okM m with
  | false =>
    rw [show applyR m u = [] by unfold applyR; rw [if_neg (by simp [om])]]
    exact Ev.neg (by simp) bad
  | true =>
    obtain ⟨a1, a2, a3, a4, _⟩ := of_okM om
    refine Ev.pos rfl (Ev.pos (by omega) ?_)
    rw [rdL_zero]
    by_cases hn : (m.headD []).length = u.length
    · rw [show applyR m u = applyM m u by unfold applyR; rw [if_pos ⟨om, hn⟩]]
      rw [show ((((m.headD []).length : Nat) : Int) != ((u.length : Nat) : Int)) = false by rw [hn]; simp]
      have L1 : ∀ (i : Nat), i < m.length → ∀ (out v : List ByteArray), out.length ≤ 8 →
          Ev (fun q => impl_ApplyM.l0 q u (out ++ [tsum u.length (fun j => mulT (ent m i j) (u.getD j ByteArray.empty))]) m (m.length : Int) ((i + 1 : Nat) : Int)) v →
          ∀ d j : Nat, j ≤ u.length → u.length - j = d →
          Ev (fun q => impl_ApplyM.l1 q u out (tsum j (fun j => mulT (ent m i j) (u.getD j ByteArray.empty))) m (m.length : Int) (i : Int) (rd_L2 m (i : Int)) ((rd_L2 m (i : Int)).length : Int) (j : Int)) v := by
        intro i hi out v ho h d
        have hl := rdL_len om hi
        induction d with
        | zero =>
          intro j hj hd
          obtain rfl : j = u.length := by omega
          refine Ev.step (fun q => ?_) h
          simp only [impl_ApplyM.l1]
          rw [if_neg (by omega), if_pos (by omega), wsucc (by omega)]
        | succ d ih =>
          intro j hj hd
          have z := ih (j + 1) (by omega) (by omega)
          rw [tsum] at z
          obtain ⟨q1, q2⟩ := rd_ent om hi (j := j) (by omega)
          have us := unit_size hu j
          have e1 := impl_MulText_ev (a := ((ent m i j : Nat) : Int)) (by omega) (by omega) (u.getD j ByteArray.empty) us
          rw [modb_nat q2] at e1
          have ts := tsum_size (N := 1073741824) (n := j) (h := fun j => mulT (ent m i j) (u.getD j ByteArray.empty)) (fun k _ => by rw [mulT_size]; exact unit_size hu k)
          have e2 := impl_AddText_ev (tsum j (fun j => mulT (ent m i j) (u.getD j ByteArray.empty))) (mulT (ent m i j) (u.getD j ByteArray.empty)) ts (by rw [mulT_size]; exact us)
          refine Ev.step (f := fun q => (impl_MulText.f q ((ent m i j : Nat) : Int) (u.getD j ByteArray.empty)).bind fun t => (impl_AddText.f q (tsum j (fun j => mulT (ent m i j) (u.getD j ByteArray.empty))) t).bind fun s => impl_ApplyM.l1 q u out s m (m.length : Int) (i : Int) (rd_L2 m (i : Int)) ((rd_L2 m (i : Int)).length : Int) ((j + 1 : Nat) : Int)) (fun q => ?_) (Ev.bind e1 (Ev.bind e2 z))
          simp only [impl_ApplyM.l1]
          rw [if_pos (by omega), if_pos (by omega), if_pos (by omega), if_pos (by omega), q1, wsucc (by omega)]
          unfold rdOf
          rw [Int.toNat_natCast]
      have L0 : ∀ d i : Nat, i ≤ m.length → m.length - i = d → Ev (fun q => impl_ApplyM.l0 q u ((List.range i).map fun i => tsum u.length (fun j => mulT (ent m i j) (u.getD j ByteArray.empty))) m (m.length : Int) (i : Int)) (applyM m u) := by
        intro d
        induction d with
        | zero =>
          intro i hi hd
          obtain rfl : i = m.length := by omega
          refine Ev.step (f := fun _ => some (applyM m u)) (fun q => ?_) (Ev.now _)
          simp only [impl_ApplyM.l0]
          rw [if_neg (by omega)]
          rfl
        | succ d ih =>
          intro i hi hd
          have z := ih (i + 1) (by omega) (by omega)
          rw [range_map_succ] at z
          have y := L1 i (by omega) _ _ (by rw [List.length_map, List.length_range]; omega) z u.length 0 (by omega) (by omega)
          refine Ev.step (fun q => ?_) y
          simp only [impl_ApplyM.l0]
          rw [if_pos (by omega), if_pos (by omega), if_pos (by omega)]
          rfl
      have y := L0 m.length 0 (by omega) (by omega)
      refine Ev.step (fun q => ?_) y
      simp only [impl_ApplyM.j0, Bool.false_eq_true, if_false]
      rfl
    · rw [show applyR m u = [] by unfold applyR; rw [if_neg (fun h => hn h.2)]]
      rw [show ((((m.headD []).length : Nat) : Int) != ((u.length : Nat) : Int)) = true from bne_iff_ne.mpr (by omega)]
      exact bad

/-! ### spec.ApplyM -/
theorem spec_ApplyM_ev (m : List (List Int)) (u : List ByteArray) (hm : m.length ≤ 1099511627776) (hr : ∀ r ∈ m, r.length ≤ 1099511627776) (hu : ∀ x ∈ u, x.size ≤ 1073741824) : Ev (fun k => spec_ApplyM.f k m u) (applyR m u) := by
  have em := spec_MatrixOk_ev m (by omega) (fun r h => by have := hr r h; omega)
  have bad : Ev (fun k => spec_ApplyM.j0 k m u [] true) ([] : List ByteArray) := Ev.step (f := fun _ => some []) (fun k => by simp only [spec_ApplyM.j0, if_true]) (Ev.now _)
  unfold spec_ApplyM.f
  refine Ev.some_bind rfl (Ev.bind em ?_)
  cases om : okM m with
  | false =>
    rw [show applyR m u = [] by unfold applyR; rw [if_neg (by simp [om])]]
    exact Ev.neg (by simp) bad
  | true =>
    obtain ⟨a1, a2, a3, a4, _⟩ := of_okM om
    refine Ev.pos rfl (Ev.pos (by omega) ?_)
    rw [rdL_zero]
    by_cases hn : (m.headD []).length = u.length
    · rw [show applyR m u = applyM m u by unfold applyR; rw [if_pos ⟨om, hn⟩]]
      rw [show ((((m.headD []).length : Nat) : Int) != ((u.length : Nat) : Int)) = false by rw [hn]; simp]
      have L1 : ∀ (i : Nat), i < m.length → ∀ (out v : List ByteArray), out.length ≤ 8 →
          Ev (fun q => spec_ApplyM.l0 q m u (out ++ [tsum u.length (fun j => mulT (ent m i j) (u.getD j ByteArray.empty))]) ((i + 1 : Nat) : Int)) v →
          ∀ d j : Nat, j ≤ u.length → u.length - j = d →
          Ev (fun q => spec_ApplyM.l1 q m u out (i : Int) (tsum j (fun j => mulT (ent m i j) (u.getD j ByteArray.empty))) (j : Int)) v := by
        intro i hi out v ho h d
        have hl := rdL_len om hi
        induction d with
        | zero =>
          intro j hj hd
          obtain rfl : j = u.length := by omega
          refine Ev.step (fun q => ?_) h
          simp only [spec_ApplyM.l1]
          rw [if_neg (by omega), if_pos (by omega), wsucc (by omega)]
        | succ d ih =>
          intro j hj hd
          have z := ih (j + 1) (by omega) (by omega)
          rw [tsum] at z
          obtain ⟨q1, q2⟩ := rd_ent om hi (j := j) (by omega)
          have us := unit_size hu j
          have e1 := spec_MulText_ev (a := ((ent m i j : Nat) : Int)) (by omega) (by omega) (u.getD j ByteArray.empty) us
          rw [modb_nat q2] at e1
          have ts := tsum_size (N := 1073741824) (n := j) (h := fun j => mulT (ent m i j) (u.getD j ByteArray.empty)) (fun k _ => by rw [mulT_size]; exact unit_size hu k)
          have e2 := spec_AddText_ev (tsum j (fun j => mulT (ent m i j) (u.getD j ByteArray.empty))) (mulT (ent m i j) (u.getD j ByteArray.empty)) ts (by rw [mulT_size]; exact us)
          refine Ev.step (f := fun q => (spec_MulText.f q ((ent m i j : Nat) : Int) (u.getD j ByteArray.empty)).bind fun t => (spec_AddText.f q (tsum j (fun j => mulT (ent m i j) (u.getD j ByteArray.empty))) t).bind fun s => spec_ApplyM.l1 q m u out (i : Int) s ((j + 1 : Nat) : Int)) (fun q => ?_) (Ev.bind e1 (Ev.bind e2 z))
          simp only [spec_ApplyM.l1]
          rw [if_pos (by omega), if_pos (by omega), if_pos (by omega), if_pos (by omega), if_pos (by omega), q1, wsucc (by omega)]
          unfold rdOf
          rw [Int.toNat_natCast]
      have L0 : ∀ d i : Nat, i ≤ m.length → m.length - i = d → Ev (fun q => spec_ApplyM.l0 q m u ((List.range i).map fun i => tsum u.length (fun j => mulT (ent m i j) (u.getD j ByteArray.empty))) (i : Int)) (applyM m u) := by
        intro d
        induction d with
        | zero =>
          intro i hi hd
          obtain rfl : i = m.length := by omega
          refine Ev.step (f := fun _ => some (applyM m u)) (fun q => ?_) (Ev.now _)
          simp only [spec_ApplyM.l0]
          rw [if_neg (by omega)]
          rfl
        | succ d ih =>
          intro i hi hd
          have z := ih (i + 1) (by omega) (by omega)
          rw [range_map_succ] at z
          have y := L1 i (by omega) _ _ (by rw [List.length_map, List.length_range]; omega) z u.length 0 (by omega) (by omega)
          refine Ev.step (fun q => ?_) y
          simp only [spec_ApplyM.l0]
          rw [if_pos (by omega)]
          rfl
      have y := L0 m.length 0 (by omega) (by omega)
      refine Ev.step (fun q => ?_) y
      simp only [spec_ApplyM.j0, Bool.false_eq_true, if_false]
      rfl
    · rw [show applyR m u = [] by unfold applyR; rw [if_neg (fun h => hn h.2)]]
      rw [show ((((m.headD []).length : Nat) : Int) != ((u.length : Nat) : Int)) = true from bne_iff_ne.mpr (by omega)]
      exact bad

theorem mk_rows {r c : Nat} {f : Nat → Nat → Nat} {N : Nat} (h : c ≤ N) : ∀ x ∈ mk r c f, x.length ≤ N := by
  intro x hx
  unfold mk at hx
  obtain ⟨i, _, rfl⟩ := List.mem_map.mp hx
  simp
  exact h

/-! ### powers -/
def gpow (a : Int) (n : Int) : Int := if 0 ≤ n ∧ n ≤ 1000 then ((Gf.pow (modb a) n.toNat : Nat) : Int) else 0
theorem gmul_pow (a : Int) (i : Nat) : gmul ((Gf.pow (modb a) i : Nat) : Int) a = ((Gf.pow (modb a) (i + 1) : Nat) : Int) := by
  unfold gmul
  rw [modb_nat (Gf.pow_lt (modb_lt a) i)]
  rfl

theorem spec_PowG_l0 {a : Int} (a0 : -9223372036854775808 ≤ a) (a1 : a ≤ 9223372036854775807) (n : Nat) (hn : n ≤ 1000) (d : Nat) : ∀ i : Nat, i ≤ n → n - i = d →
    Ev (fun k => spec_PowG.l0 k a (n : Int) ((Gf.pow (modb a) i : Nat) : Int) (i : Int)) ((Gf.pow (modb a) n : Nat) : Int) := by
  induction d with
  | zero =>
    intro i hi hd
    obtain rfl : i = n := by omega
    exact Ev.step (f := fun _ => some ((Gf.pow (modb a) i : Nat) : Int)) (fun k => by simp only [spec_PowG.l0]; rw [if_neg (by omega)]) (Ev.now _)
  | succ d ih =>
    intro i hi hd
    have hl := Gf.pow_lt (modb_lt a) i
    refine Ev.step (f := fun k => (spec_MulG.f k ((Gf.pow (modb a) i : Nat) : Int) a).bind fun t => spec_PowG.l0 k a (n : Int) t ((i + 1 : Nat) : Int)) (fun k => ?_) (Ev.bind (spec_MulG_ev (by omega) (by omega) a0 a1) ?_)
    · simp only [spec_PowG.l0]
      rw [if_pos (by omega), w64 (by omega) (by omega)]
      rfl
    · rw [gmul_pow]
      exact ih (i + 1) (by omega) (by omega)
theorem spec_PowG_ev {a n : Int} (a0 : -9223372036854775808 ≤ a) (a1 : a ≤ 9223372036854775807) : Ev (fun k => spec_PowG.f k a n) (gpow a n) := by
  unfold gpow spec_PowG.f
  simp only [spec_l01In_eq, Option.bind_some, decide_eq_true_eq]
  by_cases h : 0 ≤ n ∧ n ≤ 1000
  · simp only [if_pos h]
    obtain ⟨m, rfl⟩ := Int.eq_ofNat_of_zero_le h.1
    exact spec_PowG_l0 a0 a1 m (by omega) m 0 (by omega) (by omega)
  · simp only [if_neg h]
    exact Ev.now _

/-! ### inverses -/
def ginv (a : Int) : Int := if modb a = 0 then 0 else ((Gf.pow (modb a) 254 : Nat) : Int)
theorem ginv_range (a : Int) : 0 ≤ ginv a ∧ ginv a ≤ 255 := by
  unfold ginv
  have := Gf.pow_lt (modb_lt a) 254
  split <;> omega

theorem spec_InvG_ev {a : Int} (a0 : -9223372036854775808 ≤ a) (a1 : a ≤ 9223372036854775807) : Ev (fun k => spec_InvG.f k a) (ginv a) := by
  unfold spec_InvG.f ginv
  rw [spec_l05Mod_eq a0 a1]
  simp only [Option.bind_some]
  have hl := modb_lt a
  by_cases h : modb a = 0
  · simp only [h, if_true, Int.natCast_zero]
    exact Ev.now _
  · simp only [if_neg h, if_neg (show ¬ ((modb a : Nat) : Int) = 0 by omega)]
    have hp := spec_PowG_ev (a := ((modb a : Nat) : Int)) (n := 254) (by omega) (by omega)
    have e : gpow ((modb a : Nat) : Int) 254 = ((Gf.pow (modb a) 254 : Nat) : Int) := by
      unfold gpow
      rw [if_pos (by omega), modb_nat hl]
      rfl
    rw [e] at hp
    exact Ev.bind hp (Ev.now _)

theorem gmul_nat {a : Int} {b : Nat} (hb : b < 256) : gmul a (b : Int) = ((Gf.mul (modb a) b : Nat) : Int) := by
  unfold gmul
  rw [modb_nat hb]
theorem impl_InvG_l0 {a : Int} (a0 : -9223372036854775808 ≤ a) (a1 : a ≤ 9223372036854775807) (d : Nat) : ∀ b : Nat, 1 ≤ b → b ≤ 256 → 256 - b = d → (∀ c, 1 ≤ c → c < b → Gf.mul (modb a) c ≠ 1) → Ev (fun k => impl_InvG.l0 k a (b : Int)) (ginv a) := by
  have hl := modb_lt a
  induction d with
  | zero =>
    intro b h1 h2 hd hno
    obtain rfl : b = 256 := by omega
    have hz : modb a = 0 := by
      refine Decidable.byContradiction fun h => ?_
      have hm := Gf.mul_inv hl h
      have hp := Gf.pow_lt hl 254
      have h0 : Gf.pow (modb a) 254 ≠ 0 := by
        intro h0
        rw [h0, Gf.mul_zero_right] at hm
        omega
      exact hno _ (by omega) hp hm
    unfold ginv
    rw [if_pos hz]
    exact Ev.step (f := fun _ => some 0) (fun k => by simp only [impl_InvG.l0]; rw [if_neg (by omega)]) (Ev.now _)
  | succ d ih =>
    intro b h1 h2 hd hno
    refine Ev.step (f := fun k => (impl_MulG.f k a (b : Int)).bind fun t => if t = 1 then some (b : Int) else impl_InvG.l0 k a ((b + 1 : Nat) : Int)) (fun k => ?_) (Ev.bind (impl_MulG_ev a0 a1 (by omega) (by omega)) ?_)
    · simp only [impl_InvG.l0]
      rw [if_pos (by omega), wsucc (by omega)]
    · rw [gmul_nat (by omega)]
      by_cases h : Gf.mul (modb a) b = 1
      · simp only [h]
        have hb := Gf.inv_unique hl (show b < 256 by omega) h
        have h0 : modb a ≠ 0 := by
          intro h0
          rw [h0, Gf.mul_zero_left] at h
          omega
        have e : ginv a = (b : Int) := by
          unfold ginv
          rw [if_neg h0, ← hb]
        rw [e]
        simp only [Int.natCast_one, if_true]
        exact Ev.now _
      · simp only [if_neg (show ¬ ((Gf.mul (modb a) b : Nat) : Int) = 1 by omega)]
        refine ih (b + 1) (by omega) (by omega) (by omega) (fun c hc hc2 => ?_)
        by_cases hcb : c = b
        · rw [hcb]; exact h
        · exact hno c hc (by omega)
theorem impl_InvG_ev {a : Int} (a0 : -9223372036854775808 ≤ a) (a1 : a ≤ 9223372036854775807) : Ev (fun k => impl_InvG.f k a) (ginv a) :=
  impl_InvG_l0 a0 a1 255 1 (by omega) (by omega) (by omega) (fun c h1 h2 => by omega)

/-! ### the matrix of ones -/
def oneR (n : Int) : List (List Int) := if 1 ≤ n ∧ n ≤ 8 then mk n.toNat n.toNat idf else []
theorem one_row {n i : Nat} (hi : i < n) : (List.replicate n (0 : Int)).set i 1 = (List.range n).map fun j => ((idf i j : Nat) : Int) := by
  refine List.ext_getElem (by simp) (fun j h1 h2 => ?_)
  rw [List.getElem_set, List.getElem_map, List.getElem_range]
  unfold idf
  by_cases e : i = j
  · rw [if_pos e, if_pos e]; rfl
  · rw [if_neg e, if_neg e, List.getElem_replicate]; rfl

/-! ### impl.OneM -/
theorem impl_OneM_ev (n : Int) : Ev (fun k => impl_OneM.f k n) (oneR n) := by
  unfold impl_OneM.f oneR
  rw [impl_within_eq]
  refine Ev.some_bind rfl ?_
  by_cases h : 1 ≤ n ∧ n ≤ 8
  · rw [if_pos h]
    refine Ev.pos (decide_eq_true h) ?_
    obtain ⟨N, rfl⟩ := Int.eq_ofNat_of_zero_le (show 0 ≤ n by omega)
    have key : ∀ d i : Nat, i ≤ N → N - i = d → Ev (fun q => impl_OneM.l0 q (N : Int) ((List.range i).map fun i => (List.range N).map fun j => ((idf i j : Nat) : Int)) (i : Int)) (mk N N idf) := by
      intro d
      induction d with
      | zero =>
        intro i hi hd
        obtain rfl : i = N := by omega
        refine Ev.step (f := fun _ => some (mk i i idf)) (fun q => ?_) (Ev.now _)
        simp only [impl_OneM.l0]
        rw [if_neg (by omega)]
        rfl
      | succ d ih =>
        intro i hi hd
        have z := ih (i + 1) (by omega) (by omega)
        rw [range_map_succ] at z
        refine Ev.step (fun q => ?_) z
        simp only [impl_OneM.l0]
        rw [if_pos (by omega), if_pos (by omega), if_pos (by omega), Option.bind_some, if_pos (by omega), Int.toNat_natCast, Int.toNat_natCast, List.length_replicate, if_pos (by omega), if_pos (by simp; omega), wsucc (by omega), one_row (by omega)]
    exact key N 0 (by omega) (by omega)
  · rw [if_neg h]
    exact Ev.neg (by simpa using h) (Ev.now _)

/-! ### spec.OneM -/
theorem spec_OneM_ev (n : Int) : Ev (fun k => spec_OneM.f k n) (oneR n) := by
  unfold spec_OneM.f oneR
  by_cases h : 1 ≤ n ∧ n ≤ 8
  · rw [if_pos h]
    obtain ⟨N, rfl⟩ := Int.eq_ofNat_of_zero_le (show 0 ≤ n by omega)
    have key : ∀ d i : Nat, i ≤ N → N - i = d → Ev (fun q => spec_OneM.l0 q (N : Int) ((List.range i).map fun i => (List.range N).map fun j => ((idf i j : Nat) : Int)) (i : Int)) (mk N N idf) := by
      intro d
      induction d with
      | zero =>
        intro i hi hd
        obtain rfl : i = N := by omega
        refine Ev.step (f := fun _ => some (mk i i idf)) (fun q => ?_) (Ev.now _)
        simp only [spec_OneM.l0]
        rw [if_neg (by omega)]
        rfl
      | succ d ih =>
        intro i hi hd
        have z := ih (i + 1) (by omega) (by omega)
        rw [range_map_succ] at z
        refine Ev.step (fun q => ?_) z
        simp only [spec_OneM.l0]
        rw [if_pos (by omega), spec_l01In_eq, Option.bind_some, if_pos (decide_eq_true h), if_pos (by omega), if_pos (by omega), Option.bind_some, if_pos (by omega), Int.toNat_natCast, Int.toNat_natCast, List.length_replicate, if_pos (by omega), if_pos (by simp; omega), wsucc (by omega), one_row (by omega)]
    exact key N 0 (by omega) (by omega)
  · rw [if_neg h]
    by_cases h0 : 0 < n
    · refine Ev.step (f := fun _ => some []) (fun q => ?_) (Ev.now _)
      simp only [spec_OneM.l0]
      rw [if_pos h0, spec_l01In_eq, Option.bind_some, if_neg (by simpa using h)]
    · refine Ev.step (f := fun _ => some []) (fun q => ?_) (Ev.now _)
      simp only [spec_OneM.l0]
      rw [if_neg h0]

/-! ### the code of a schema -/
def codeN (k m : Nat) : List (List Int) := mk k k idf ++ (List.range m).map fun i => (List.range k).map fun j => ginv (((k + i) ^^^ j : Nat) : Int)
def codeR (s : Int) : List (List Int) := if s = 1 then codeN 2 1 else if s = 2 then codeN 3 2 else if s = 3 then codeN 4 2 else []
theorem codeN_size {k m : Nat} (hk : k ≤ 8) (hm : m ≤ 8) : (codeN k m).length = k + m ∧ ∀ x ∈ codeN k m, x.length ≤ 8 := by
  unfold codeN
  refine ⟨by rw [List.length_append, mk_length, List.length_map, List.length_range], fun x hx => ?_⟩
  rcases List.mem_append.mp hx with h | h
  · exact mk_rows hk x h
  · obtain ⟨i, _, rfl⟩ := List.mem_map.mp h
    rw [List.length_map, List.length_range]
    exact hk
theorem codeR_size (s : Int) : (codeR s).length ≤ 8 ∧ ∀ x ∈ codeR s, x.length ≤ 8 := by
  unfold codeR
  by_cases h1 : s = 1
  · rw [if_pos h1]
    have := codeN_size (k := 2) (m := 1) (by omega) (by omega)
    exact ⟨by omega, this.2⟩
  · rw [if_neg h1]
    by_cases h2 : s = 2
    · rw [if_pos h2]
      have := codeN_size (k := 3) (m := 2) (by omega) (by omega)
      exact ⟨by omega, this.2⟩
    · rw [if_neg h2]
      by_cases h3 : s = 3
      · rw [if_pos h3]
        have := codeN_size (k := 4) (m := 2) (by omega) (by omega)
        exact ⟨by omega, this.2⟩
      · rw [if_neg h3]
        simp
theorem xor_small {k i j : Nat} (hk : k ≤ 8) (hi : i ≤ 8) (hj : j ≤ 8) : (k + i) ^^^ j < 2 ^ 8 := Nat.xor_lt_two_pow (by omega) (by omega)

/-! ### impl.CodeOf -/
theorem impl_code_ev {k m : Nat} (hk : k ≤ 8) (hm : m ≤ 8) : Ev (fun q => impl_CodeOf.l0 q (k : Int) (m : Int) (mk k k idf) 0) (codeN k m) := by
  have L1 : ∀ (i : Nat), i < m → ∀ (out v : List (List Int)), out.length ≤ 16 → Ev (fun q => impl_CodeOf.l0 q (k : Int) (m : Int) (out ++ [(List.range k).map fun j => ginv (((k + i) ^^^ j : Nat) : Int)]) ((i + 1 : Nat) : Int)) v →
      ∀ d j : Nat, j ≤ k → k - j = d → Ev (fun q => impl_CodeOf.l1 q (k : Int) (m : Int) out (i : Int) ((List.range j).map (fun j => ginv (((k + i) ^^^ j : Nat) : Int)) ++ List.replicate d 0) (k : Int) (j : Int)) v := by
    intro i hi out v ho h d
    induction d with
    | zero =>
      intro j hj hd
      obtain rfl : j = k := by omega
      refine Ev.step (fun q => ?_) h
      simp only [impl_CodeOf.l1]
      rw [if_neg (by omega), if_pos (by omega), wsucc (by omega), List.replicate_zero, List.append_nil]
    | succ d ih =>
      intro j hj hd
      have z := ih (j + 1) (by omega) (by omega)
      rw [range_map_succ, List.append_assoc] at z
      have x8 := xor_small (k := k) (i := i) (j := j) hk (by omega) (by omega)
      have e := impl_InvG_ev (a := (((k + i) ^^^ j : Nat) : Int)) (by omega) (by omega)
      refine Ev.step (f := fun q => (impl_InvG.f q (((k + i) ^^^ j : Nat) : Int)).bind fun t => impl_CodeOf.l1 q (k : Int) (m : Int) out (i : Int) (((List.range j).map (fun j => ginv (((k + i) ^^^ j : Nat) : Int)) ++ List.replicate (d + 1) 0).set j t) (k : Int) ((j + 1 : Nat) : Int)) (fun q => ?_) (Ev.bind e ?_)
      · simp only [impl_CodeOf.l1]
        rw [if_pos (by omega), wadd (by omega), bits_xor64 (by omega) (by omega)]
        refine congrArg (Option.bind _) (funext fun t => ?_)
        rw [if_pos (by omega), if_pos (by rw [List.length_append, List.length_map, List.length_range, List.length_replicate]; omega), wsucc (by omega), Int.toNat_natCast]
      · have s := set_midI ((List.range j).map (fun j => ginv (((k + i) ^^^ j : Nat) : Int))) 0 (ginv (((k + i) ^^^ j : Nat) : Int)) (List.replicate d 0)
        rw [List.length_map, List.length_range] at s
        rw [List.replicate_succ, s]
        exact z
  have L0 : ∀ d i : Nat, i ≤ m → m - i = d → Ev (fun q => impl_CodeOf.l0 q (k : Int) (m : Int) (mk k k idf ++ (List.range i).map fun i => (List.range k).map fun j => ginv (((k + i) ^^^ j : Nat) : Int)) (i : Int)) (codeN k m) := by
    intro d
    induction d with
    | zero =>
      intro i hi hd
      obtain rfl : i = m := by omega
      refine Ev.step (f := fun _ => some (codeN k i)) (fun q => ?_) (Ev.now _)
      simp only [impl_CodeOf.l0]
      rw [if_neg (by omega)]
      rfl
    | succ d ih =>
      intro i hi hd
      have z := ih (i + 1) (by omega) (by omega)
      rw [range_map_succ, ← List.append_assoc] at z
      have y := L1 i (by omega) _ _ (by rw [List.length_append, mk_length, List.length_map, List.length_range]; omega) z k 0 (by omega) (by omega)
      refine Ev.step (fun q => ?_) y
      simp only [impl_CodeOf.l0]
      rw [if_pos (by omega), if_pos (by omega), if_pos (by omega), Option.bind_some, Int.toNat_natCast, List.length_replicate]
      rfl
  have y := L0 m 0 (by omega) (by omega)
  simpa using y
theorem impl_CodeOf_ev (s : Int) : Ev (fun q => impl_CodeOf.f q s) (codeR s) := by
  have one (n : Nat) (h1 : 1 ≤ n) (h8 : n ≤ 8) : Ev (fun q => impl_OneM.f q (n : Int)) (mk n n idf) := by
    have h := impl_OneM_ev (n : Int)
    unfold oneR at h
    rw [if_pos (by omega), Int.toNat_natCast] at h
    exact h
  unfold impl_CodeOf.f impl_SchemaOf.f codeR
  by_cases h1 : s = 1
  · simp only [if_pos h1, Option.bind_some, if_true]
    exact Ev.bind (one 2 (by omega) (by omega)) (impl_code_ev (k := 2) (m := 1) (by omega) (by omega))
  · simp only [if_neg h1]
    by_cases h2 : s = 2
    · simp only [if_pos h2, Option.bind_some, if_true]
      exact Ev.bind (one 3 (by omega) (by omega)) (impl_code_ev (k := 3) (m := 2) (by omega) (by omega))
    · simp only [if_neg h2]
      by_cases h3 : s = 3
      · simp only [if_pos h3, Option.bind_some, if_true]
        exact Ev.bind (one 4 (by omega) (by omega)) (impl_code_ev (k := 4) (m := 2) (by omega) (by omega))
      · simp only [if_neg h3, Option.bind_some, Bool.false_eq_true, if_false]
        exact Ev.now _

/-! ### spec.CodeOf -/
theorem spec_code_ev {k m : Nat} (hk : k ≤ 8) (hm : m ≤ 8) : Ev (fun q => spec_CodeOf.l0 q (k : Int) (m : Int) (mk k k idf) 0) (codeN k m) := by
  have L1 : ∀ (i : Nat), i < m → ∀ (out v : List (List Int)), out.length ≤ 16 → Ev (fun q => spec_CodeOf.l0 q (k : Int) (m : Int) (out ++ [(List.range k).map fun j => ginv (((k + i) ^^^ j : Nat) : Int)]) ((i + 1 : Nat) : Int)) v →
      ∀ d j : Nat, j ≤ k → k - j = d → Ev (fun q => spec_CodeOf.l1 q (k : Int) (m : Int) out (i : Int) ((List.range j).map (fun j => ginv (((k + i) ^^^ j : Nat) : Int))) (j : Int)) v := by
    intro i hi out v ho h d
    induction d with
    | zero =>
      intro j hj hd
      obtain rfl : j = k := by omega
      refine Ev.step (fun q => ?_) h
      simp only [spec_CodeOf.l1]
      rw [if_neg (by omega), if_pos (by omega), wsucc (by omega)]
    | succ d ih =>
      intro j hj hd
      have z := ih (j + 1) (by omega) (by omega)
      rw [range_map_succ] at z
      have x8 := xor_small (k := k) (i := i) (j := j) hk (by omega) (by omega)
      have e := spec_InvG_ev (a := (((k + i) ^^^ j : Nat) : Int)) (by omega) (by omega)
      refine Ev.step (f := fun q => (spec_InvG.f q (((k + i) ^^^ j : Nat) : Int)).bind fun t => spec_CodeOf.l1 q (k : Int) (m : Int) out (i : Int) ((List.range j).map (fun j => ginv (((k + i) ^^^ j : Nat) : Int)) ++ [t]) ((j + 1 : Nat) : Int)) (fun q => ?_) (Ev.bind e z)
      simp only [spec_CodeOf.l1]
      rw [if_pos (by omega), wadd (by omega), bits_xor64 (by omega) (by omega)]
      refine congrArg (Option.bind _) (funext fun t => ?_)
      rw [if_pos (by rw [List.length_map, List.length_range]; omega), wsucc (by omega)]
  have L0 : ∀ d i : Nat, i ≤ m → m - i = d → Ev (fun q => spec_CodeOf.l0 q (k : Int) (m : Int) (mk k k idf ++ (List.range i).map fun i => (List.range k).map fun j => ginv (((k + i) ^^^ j : Nat) : Int)) (i : Int)) (codeN k m) := by
    intro d
    induction d with
    | zero =>
      intro i hi hd
      obtain rfl : i = m := by omega
      refine Ev.step (f := fun _ => some (codeN k i)) (fun q => ?_) (Ev.now _)
      simp only [spec_CodeOf.l0]
      rw [if_neg (by omega)]
      rfl
    | succ d ih =>
      intro i hi hd
      have z := ih (i + 1) (by omega) (by omega)
      rw [range_map_succ, ← List.append_assoc] at z
      have y := L1 i (by omega) _ _ (by rw [List.length_append, mk_length, List.length_map, List.length_range]; omega) z k 0 (by omega) (by omega)
      refine Ev.step (fun q => ?_) y
      simp only [spec_CodeOf.l0]
      rw [if_pos (by omega)]
      rfl
  have y := L0 m 0 (by omega) (by omega)
  simpa using y
theorem spec_CodeOf_ev (s : Int) : Ev (fun q => spec_CodeOf.f q s) (codeR s) := by
  have one (n : Nat) (h1 : 1 ≤ n) (h8 : n ≤ 8) : Ev (fun q => spec_OneM.f q (n : Int)) (mk n n idf) := by
    have h := spec_OneM_ev (n : Int)
    unfold oneR at h
    rw [if_pos (by omega), Int.toNat_natCast] at h
    exact h
  unfold spec_CodeOf.f spec_SchemaOf.f codeR
  by_cases h1 : s = 1
  · simp only [if_pos h1, Option.bind_some, if_true, List.nil_append]
    exact Ev.bind (one 2 (by omega) (by omega)) (Ev.pos (by rw [mk_length]; simp) (spec_code_ev (k := 2) (m := 1) (by omega) (by omega)))
  · simp only [if_neg h1]
    by_cases h2 : s = 2
    · simp only [if_pos h2, Option.bind_some, if_true, List.nil_append]
      exact Ev.bind (one 3 (by omega) (by omega)) (Ev.pos (by rw [mk_length]; simp) (spec_code_ev (k := 3) (m := 2) (by omega) (by omega)))
    · simp only [if_neg h2]
      by_cases h3 : s = 3
      · simp only [if_pos h3, Option.bind_some, if_true, List.nil_append]
        exact Ev.bind (one 4 (by omega) (by omega)) (Ev.pos (by rw [mk_length]; simp) (spec_code_ev (k := 4) (m := 2) (by omega) (by omega)))
      · simp only [if_neg h3, Option.bind_some, Bool.false_eq_true, if_false]
        exact Ev.now _

/-! ### units filled up, and what Encode makes of them -/
def kOf (s : Int) : Nat := if s = 1 then 2 else if s = 2 then 3 else if s = 3 then 4 else 0
def mOf (s : Int) : Nat := if s = 1 then 1 else if s = 2 then 2 else if s = 3 then 2 else 0
def okS (s : Int) : Bool := decide (s = 1 ∨ s = 2 ∨ s = 3)
theorem schema_cases (s : Int) : s = 1 ∨ s = 2 ∨ s = 3 ∨ (s ≠ 1 ∧ s ≠ 2 ∧ s ≠ 3) := by omega
theorem impl_schema (s : Int) : impl_SchemaOf.f s = some ((kOf s : Int), (mOf s : Int), okS s) := by
  rcases schema_cases s with rfl | rfl | rfl | ⟨h1, h2, h3⟩
  · rfl
  · rfl
  · rfl
  · unfold impl_SchemaOf.f kOf mOf okS
    rw [if_neg h1, if_neg h2, if_neg h3, if_neg h1, if_neg h2, if_neg h3, if_neg h1, if_neg h2, if_neg h3, decide_eq_false (by omega)]
    rfl
theorem spec_schema (s : Int) : spec_SchemaOf.f s = some ((kOf s : Int), (mOf s : Int), okS s) := by
  rcases schema_cases s with rfl | rfl | rfl | ⟨h1, h2, h3⟩
  · rfl
  · rfl
  · rfl
  · unfold spec_SchemaOf.f kOf mOf okS
    rw [if_neg h1, if_neg h2, if_neg h3, if_neg h1, if_neg h2, if_neg h3, if_neg h1, if_neg h2, if_neg h3, decide_eq_false (by omega)]
    rfl
theorem kOf_le (s : Int) : kOf s ≤ 4 ∧ mOf s ≤ 2 := by
  unfold kOf mOf
  rcases schema_cases s with rfl | rfl | rfl | ⟨h1, h2, h3⟩
  · decide
  · decide
  · decide
  · rw [if_neg h1, if_neg h2, if_neg h3, if_neg h1, if_neg h2, if_neg h3]
    decide
def zerosT (n : Nat) : ByteArray := ⟨(List.replicate n 0).toArray⟩
theorem zerosT_size (n : Nat) : (zerosT n).size = n := by simp [zerosT, ByteArray.size]
def most (u : List ByteArray) : Nat := u.foldl (fun a x => max a x.size) 0
theorem most_snoc (u : List ByteArray) (x : ByteArray) : most (u ++ [x]) = max (most u) x.size := by simp [most]
theorem foldl_max_le (u : List ByteArray) : ∀ a : Nat, a ≤ u.foldl (fun a x => max a x.size) a ∧ ∀ x ∈ u, x.size ≤ u.foldl (fun a x => max a x.size) a := by
  induction u with
  | nil => intro a; simp
  | cons y u ih =>
    intro a
    obtain ⟨h1, h2⟩ := ih (max a y.size)
    refine ⟨?_, fun x hx => ?_⟩
    · simp only [List.foldl_cons]
      omega
    · simp only [List.foldl_cons]
      rcases List.mem_cons.mp hx with rfl | hx
      · omega
      · exact h2 x hx
theorem most_le {u : List ByteArray} : ∀ x ∈ u, x.size ≤ most u := (foldl_max_le u 0).2
theorem most_bound {u : List ByteArray} {N : Nat} (h : ∀ x ∈ u, x.size ≤ N) : most u ≤ N := by
  have key : ∀ (u : List ByteArray) (a : Nat), a ≤ N → (∀ x ∈ u, x.size ≤ N) → u.foldl (fun a x => max a x.size) a ≤ N := by
    intro u
    induction u with
    | nil => intro a ha _; exact ha
    | cons y u ih =>
      intro a ha hu
      have := hu y (by simp)
      exact ih (max a y.size) (by omega) (fun x hx => hu x (by simp [hx]))
  exact key u 0 (Nat.zero_le _) h
def padT (n : Nat) (u : ByteArray) : ByteArray := u ++ zerosT (n - u.size)
theorem padT_size {n : Nat} {u : ByteArray} (h : u.size ≤ n) : (padT n u).size = n := by
  unfold padT
  rw [ByteArray.size_append, zerosT_size]
  omega
theorem addL_pad : ∀ (l : List UInt8) (n : Nat), l.length ≤ n → addL l (List.replicate n 0) = l ++ List.replicate (n - l.length) 0
  | [], n, _ => rfl
  | x :: l, 0, h => by simp at h
  | x :: l, n + 1, h => by
    simp only [List.length_cons] at h
    rw [List.replicate_succ, addL, addL_pad l n (by omega), UInt8.xor_zero, List.length_cons, Nat.add_sub_add_right]
    rfl
theorem addT_pad {u : ByteArray} {n : Nat} (h : u.size ≤ n) : addT u (zerosT n) = padT n u := by
  apply str_ext
  unfold padT
  rw [str_app]
  exact addL_pad u.data.toList n h
def encV (s : Int) (u : List ByteArray) : List ByteArray × Bool := if okS s = true ∧ u.length = kOf s ∧ most u ≤ 200 then (applyR (codeR s) (u.map (padT (most u))), true) else ([], false)
theorem encV_size (s : Int) (u : List ByteArray) : (encV s u).1.length ≤ 8 := by
  unfold encV
  by_cases h : okS s = true ∧ u.length = kOf s ∧ most u ≤ 200
  · rw [if_pos h]
    exact applyR_size _ _
  · rw [if_neg h]
    simp
theorem rdB_at {u : List ByteArray} {i : Nat} (h : i < u.length) : rdOf ByteArray.empty u (i : Int) = u[i] := by
  unfold rdOf
  rw [Int.toNat_natCast, List.getD_eq_getElem?_getD, List.getElem?_eq_getElem h]
  rfl

theorem mx_nat (a b : Nat) : mx (a : Int) (b : Int) = ((max a b : Nat) : Int) := by
  unfold mx
  by_cases h : (a : Int) < (b : Int)
  · rw [if_pos h]
    omega
  · rw [if_neg h]
    omega
theorem repeat_zeros (n : Nat) (h : n ≤ 1073741824) : strings_Repeat.f (⟨#[0]⟩ : ByteArray) (n : Int) = some (zerosT n) := by
  unfold strings_Repeat.f
  rw [if_pos ⟨by omega, by omega, by rw [Int.toNat_natCast]; show 1 * n ≤ _; omega⟩, Int.toNat_natCast]
  congr 1
  have e : ∀ n : Nat, Lib.repeatL [0] n = List.replicate n 0 := by
    intro n
    induction n with
    | zero => rfl
    | succ n ih =>
      rw [Lib.repeatL, ih, List.replicate_succ]
      rfl
  show (⟨(Lib.repeatL [0] n).toArray⟩ : ByteArray) = zerosT n
  rw [e]
  rfl
theorem impl_Encode_ev (s : Int) (u : List ByteArray) (hl : u.length ≤ 1099511627776) (hu : ∀ x ∈ u, x.size ≤ 1073741824) : Ev (fun k => impl_Encode.f k s u) (encV s u) := by
  have mb := most_bound hu
  have cs := codeR_size s
  have fill : okS s = true ∧ u.length = kOf s ∧ most u ≤ 200 → ∀ d i : Nat, i ≤ u.length → u.length - i = d → Ev (fun k => impl_Encode.l1 k s ((most u : Nat) : Int) ((u.take i).map (padT (most u))) u (u.length : Int) (i : Int)) (encV s u) := by
    intro hc d
    induction d with
    | zero =>
      intro i hi hd
      obtain rfl : i = u.length := by omega
      have a := impl_ApplyM_ev (codeR s) (u.map (padT (most u))) (by omega) (fun r hr => by have := cs.2 r hr; omega) (fun x hx => by
        obtain ⟨y, hy, rfl⟩ := List.mem_map.mp hx
        rw [padT_size (most_le y hy)]
        exact mb)
      refine Ev.step (f := fun k => (impl_CodeOf.f k s).bind fun t169 => (impl_ApplyM.f k t169 (u.map (padT (most u)))).bind fun t172 => some (t172, true)) (fun k => ?_) ?_
      · simp only [impl_Encode.l1]
        rw [if_neg (by omega), List.take_length]
      · unfold encV
        rw [if_pos hc]
        exact Ev.bind (impl_CodeOf_ev s) (Ev.bind a (Ev.now _))
    | succ d ih =>
      intro i hi hd
      have ci : i < u.length := by omega
      have z := ih (i + 1) (by omega) (by omega)
      rw [List.take_succ_eq_append_getElem ci, List.map_append] at z
      have hx := most_le u[i] (List.getElem_mem ci)
      have kk := (kOf_le s).1
      have ww : wrap64 (((most u : Nat) : Int) - (u[i].size : Int)) = ((most u - u[i].size : Nat) : Int) := by rw [w64 (by omega) (by omega)]; omega
      refine Ev.step (fun k => ?_) z
      simp only [impl_Encode.l1]
      rw [if_pos (by omega), if_pos (by omega), if_pos (by omega), rdB_at ci, ww, repeat_zeros _ (by omega), Option.bind_some, if_pos (by rw [zerosT_size]; omega), if_pos (by simp; omega), wsucc (by omega)]
      rfl
  have size : ∀ d i : Nat, i ≤ u.length → u.length - i = d → Ev (fun k => impl_Encode.l0 k s u (kOf s : Int) (okS s) ((most (u.take i) : Nat) : Int) u (u.length : Int) (i : Int)) (encV s u) := by
    intro d
    induction d with
    | zero =>
      intro i hi hd
      obtain rfl : i = u.length := by omega
      have no : ¬ (okS s = true ∧ u.length = kOf s ∧ most u ≤ 200) → Ev (fun k => impl_Encode.j1 k s u ((most u : Nat) : Int) true) (encV s u) := by
        intro hc
        refine Ev.step (f := fun _ => some ([], false)) (fun k => by simp only [impl_Encode.j1, if_true]) ?_
        unfold encV
        rw [if_neg hc]
        exact Ev.now _
      refine Ev.step (f := fun k => if okS s = true then (if (u.length : Int) = (kOf s : Int) then impl_Encode.j1 k s u ((most u : Nat) : Int) (decide (((most u : Nat) : Int) > 200)) else impl_Encode.j1 k s u ((most u : Nat) : Int) true) else impl_Encode.j1 k s u ((most u : Nat) : Int) true) (fun k => ?_) ?_
      · simp only [impl_Encode.l0]
        rw [if_neg (by omega), List.take_length]
      · by_cases h1 : okS s = true
        · refine Ev.pos h1 ?_
          by_cases h2 : u.length = kOf s
          · refine Ev.pos (by omega) ?_
            by_cases h3 : most u ≤ 200
            · rw [decide_eq_false (show ¬ ((most u : Nat) : Int) > 200 by omega)]
              refine Ev.step (f := fun k => impl_Encode.l1 k s ((most u : Nat) : Int) [] u (u.length : Int) 0) (fun k => by simp only [impl_Encode.j1, Bool.false_eq_true, if_false]) ?_
              exact fill ⟨h1, h2, h3⟩ u.length 0 (by omega) (by omega)
            · rw [decide_eq_true (show ((most u : Nat) : Int) > 200 by omega)]
              exact no (fun h => h3 h.2.2)
          · exact Ev.neg (by omega) (no (fun h => h2 h.2.1))
        · exact Ev.neg h1 (no (fun h => h1 h.1))
    | succ d ih =>
      intro i hi hd
      have ci : i < u.length := by omega
      have z := ih (i + 1) (by omega) (by omega)
      rw [List.take_succ_eq_append_getElem ci, most_snoc, ← mx_nat] at z
      refine Ev.step (fun k => ?_) z
      simp only [impl_Encode.l0]
      rw [if_pos (by omega), if_pos (by omega), if_pos (by omega), rdB_at ci, wsucc (by omega)]
  unfold impl_Encode.f
  exact Ev.some_bind (impl_schema s) (size u.length 0 (by omega) (by omega))

theorem zeros_nums (n : Nat) : strOfNums (List.replicate n 0) = zerosT n := by
  apply str_ext
  unfold strOfNums zerosT
  simp
theorem spec_Encode_ev (s : Int) (u : List ByteArray) (hl : u.length ≤ 1099511627776) (hu : ∀ x ∈ u, x.size ≤ 1073741824) : Ev (fun k => spec_Encode.f k s u) (encV s u) := by
  have mb := most_bound hu
  have cs := codeR_size s
  have kk := (kOf_le s).1
  have no : ¬ (okS s = true ∧ u.length = kOf s ∧ most u ≤ 200) → encV s u = ([], false) := fun hc => by
    unfold encV
    rw [if_neg hc]
  have j : Ev (fun k => spec_Encode.j0 k s u (kOf s : Int) true) ([], false) := Ev.step (f := fun _ => some ([], false)) (fun k => by simp only [spec_Encode.j0, if_true]) (Ev.now _)
  have fill : okS s = true ∧ u.length = kOf s ∧ most u ≤ 200 → ∀ d i : Nat, i ≤ u.length → u.length - i = d → Ev (fun k => spec_Encode.l1 k s u (kOf s : Int) ((most u : Nat) : Int) ((u.take i).map (padT (most u))) (i : Int)) (encV s u) := by
    intro hc d
    induction d with
    | zero =>
      intro i hi hd
      obtain rfl : i = u.length := by omega
      have a := spec_ApplyM_ev (codeR s) (u.map (padT (most u))) (by omega) (fun r hr => by have := cs.2 r hr; omega) (fun x hx => by
        obtain ⟨y, hy, rfl⟩ := List.mem_map.mp hx
        rw [padT_size (most_le y hy)]
        exact mb)
      refine Ev.step (f := fun k => (spec_CodeOf.f k s).bind fun t169 => (spec_ApplyM.f k t169 (u.map (padT (most u)))).bind fun t172 => some (t172, true)) (fun k => ?_) ?_
      · simp only [spec_Encode.l1]
        rw [if_neg (by omega), List.take_length]
      · unfold encV
        rw [if_pos hc]
        exact Ev.bind (spec_CodeOf_ev s) (Ev.bind a (Ev.now _))
    | succ d ih =>
      intro i hi hd
      have ci : i < u.length := by omega
      have z := ih (i + 1) (by omega) (by omega)
      rw [List.take_succ_eq_append_getElem ci, List.map_append] at z
      have hx := most_le u[i] (List.getElem_mem ci)
      have ad := spec_AddText_ev u[i] (zerosT (most u)) (by omega) (by rw [zerosT_size]; omega)
      rw [addT_pad hx] at ad
      refine Ev.step (f := fun k => (spec_AddText.f k u[i] (zerosT (most u))).bind fun t358 => if ((u.take i).map (padT (most u))).length < 8796093022208 then spec_Encode.l1 k s u (kOf s : Int) ((most u : Nat) : Int) ((u.take i).map (padT (most u)) ++ [t358]) ((i + 1 : Nat) : Int) else none) (fun k => ?_) (Ev.bind ad (Ev.pos (by simp; omega) z))
      simp only [spec_Encode.l1]
      rw [if_pos (by omega), if_pos (by omega), if_pos (by omega), if_pos (by omega), Int.toNat_natCast, if_pos (by omega), rdB_at ci, zeros_nums, wsucc (by omega)]
  have size : okS s = true → u.length = kOf s → ∀ d i : Nat, i ≤ u.length → u.length - i = d → most (u.take i) ≤ 200 → Ev (fun k => spec_Encode.l0 k s u (kOf s : Int) ((most (u.take i) : Nat) : Int) (i : Int)) (encV s u) := by
    intro h1 h2 d
    induction d with
    | zero =>
      intro i hi hd hm
      obtain rfl : i = u.length := by omega
      rw [List.take_length] at hm ⊢
      refine Ev.step (f := fun k => spec_Encode.l1 k s u (kOf s : Int) ((most u : Nat) : Int) [] 0) (fun k => ?_) (fill ⟨h1, h2, hm⟩ u.length 0 (by omega) (by omega))
      simp only [spec_Encode.l0]
      rw [if_neg (by omega)]
    | succ d ih =>
      intro i hi hd hm
      have ci : i < u.length := by omega
      have sn : most (u.take (i + 1)) = max (most (u.take i)) u[i].size := by rw [List.take_succ_eq_append_getElem ci, most_snoc]
      by_cases c : u[i].size ≤ 200
      · have z := ih (i + 1) (by omega) (by omega) (by omega)
        rw [sn] at z
        refine Ev.step (fun k => ?_) z
        simp only [spec_Encode.l0]
        rw [if_pos (by omega), if_pos (by omega), if_pos (by omega), rdB_at ci, if_neg (by omega), wsucc (by omega)]
        by_cases c2 : (u[i].size : Int) > ((most (u.take i) : Nat) : Int)
        · rw [if_pos c2, show max (most (u.take i)) u[i].size = u[i].size by omega]
        · rw [if_neg c2, show max (most (u.take i)) u[i].size = most (u.take i) by omega]
      · have hx := most_le u[i] (List.getElem_mem ci)
        rw [no (fun h => by omega)]
        refine Ev.step (f := fun _ => some ([], false)) (fun k => ?_) (Ev.now _)
        simp only [spec_Encode.l0]
        rw [if_pos (by omega), if_pos (by omega), if_pos (by omega), rdB_at ci, if_pos (by omega)]
  unfold spec_Encode.f
  refine Ev.some_bind (spec_schema s) ?_
  by_cases h1 : okS s = true
  · refine Ev.pos h1 ?_
    by_cases h2 : u.length = kOf s
    · rw [show ((u.length : Int) != (kOf s : Int)) = false from bne_eq_false_iff_eq.mpr (by omega)]
      refine Ev.step (f := fun k => spec_Encode.l0 k s u (kOf s : Int) 0 0) (fun k => by simp only [spec_Encode.j0, Bool.false_eq_true, if_false]) ?_
      exact size h1 h2 u.length 0 (by omega) (by omega) (by simp [most])
    · rw [show ((u.length : Int) != (kOf s : Int)) = true from bne_iff_ne.mpr (by omega), no (fun h => h2 h.2.1)]
      exact j
  · rw [no (fun h => h1 h.1)]
    exact Ev.neg h1 j

/-! ### marks -/
theorem markText_ex (m : Nat) (hm : m ≤ 1000000000000) : ∃ t, Ev (fun k => laws_markText.f k (m : Int)) t := by
  have key : ∀ (f : Nat) (x : Nat) (acc : ByteArray), x < 10 ^ f → x ≤ 1000000000000 → acc.size + f ≤ 1000 → ∃ t, Ev (fun k => laws_markText.l0 k (x : Int) acc) t := by
    intro f
    induction f with
    | zero =>
      intro x acc hx hf ha
      refine ⟨_, Ev.step (fun k => ?_) (Ev.now ((⟨#[109]⟩ : ByteArray) ++ acc))⟩
      simp only [laws_markText.l0]
      rw [if_neg (by omega), if_pos (by omega)]
    | succ f ih =>
      intro x acc hx hf ha
      by_cases h : x = 0
      · refine ⟨_, Ev.step (fun k => ?_) (Ev.now ((⟨#[109]⟩ : ByteArray) ++ acc))⟩
        simp only [laws_markText.l0]
        rw [if_neg (by omega), if_pos (by omega)]
      · have hp : 10 ^ (f + 1) = 10 * 10 ^ f := by rw [Nat.pow_succ]; omega
        have hs : ∀ c : Int, (strOfNums [c]).size = 1 := fun c => by rw [strOfNums_size]; rfl
        obtain ⟨t, ht⟩ := ih (x / 10) (strOfNums [(wrap64 (48 + (Int.tmod (x : Int) 10))) % 256] ++ acc) (by omega) (by omega) (by rw [ByteArray.size_append, hs]; omega)
        refine ⟨t, Ev.step (fun k => ?_) ht⟩
        simp only [laws_markText.l0, Option.bind_some]
        rw [if_pos (by omega), if_pos (by rw [hs]; omega), Int.tdiv_eq_ediv_of_nonneg (by omega), w64 (x := (x : Int) / 10) (by omega) (by omega)]
        rfl
  unfold laws_markText.f
  by_cases h : (m : Int) ≤ 0
  · simp only [if_pos h]
    exact ⟨_, Ev.now _⟩
  · simp only [if_neg h]
    exact key 13 m _ (by omega) hm (by decide)
theorem markText_fun : ∃ T : Nat → ByteArray, ∀ m : Nat, m ≤ 1000000000000 → Ev (fun k => laws_markText.f k (m : Int)) (T m) := by
  refine ⟨fun m => if h : m ≤ 1000000000000 then Classical.choose (markText_ex m h) else ByteArray.empty, fun m h => ?_⟩
  simp only [dif_pos h]
  exact Classical.choose_spec (markText_ex m h)
def marked (T : Nat → ByteArray) (m n : Nat) : List ByteArray := (List.range n).map fun i => T (m + i)
theorem marked_length (T : Nat → ByteArray) (m n : Nat) : (marked T m n).length = n := by simp [marked]
theorem markS_ev (T : Nat → ByteArray) (hT : ∀ m : Nat, m ≤ 1000000000000 → Ev (fun k => laws_markText.f k (m : Int)) (T m)) (l : List ByteArray) (m : Nat) (hl : l.length + m ≤ 1000000000000) :
    Ev (fun k => laws_markStringS.f k l (m : Int)) (((m + l.length : Nat) : Int), marked T m l.length) := by
  have key : ∀ d (i : Nat), i ≤ l.length → l.length - i = d → Ev (fun k => laws_markStringS.l0 k (marked T m i ++ l.drop i) ((m + i : Nat) : Int) (i : Int)) (((m + l.length : Nat) : Int), marked T m l.length) := by
    intro d
    induction d with
    | zero =>
      intro i hi hd
      obtain rfl : i = l.length := by omega
      rw [List.drop_length, List.append_nil]
      exact Ev.step (f := fun _ => some (((m + l.length : Nat) : Int), marked T m l.length)) (fun k => by simp only [laws_markStringS.l0]; rw [marked_length, if_neg (by omega)]) (Ev.now _)
    | succ d ih =>
      intro i hi hd
      have hlen : (marked T m i ++ l.drop i).length = l.length := by rw [List.length_append, marked_length, List.length_drop]; omega
      have hset : (marked T m i ++ l.drop i).set i (T (m + i)) = marked T m (i + 1) ++ l.drop (i + 1) := by
        rw [List.set_append_right _ _ (by rw [marked_length]; omega), marked_length, Nat.sub_self, List.drop_eq_getElem_cons (by omega), List.set_cons_zero]
        simp [marked, List.range_succ]
      refine Ev.step (fun k => ?_) (Ev.bind (hT (m + i) (by omega)) (f := fun k t => laws_markStringS.l0 k ((marked T m i ++ l.drop i).set i t) ((m + (i + 1) : Nat) : Int) ((i + 1 : Nat) : Int)) ?_)
      · simp only [laws_markStringS.l0]
        rw [hlen, if_pos (by omega), wsucc (n := m + i) (by omega), wsucc (n := i) (by omega)]
        simp only [if_pos (show 0 ≤ (i : Int) by omega), Int.toNat_natCast]
        rfl
      · simp only [hset]
        exact ih (i + 1) (by omega) (by omega)
  have := key l.length 0 (by omega) (by omega)
  exact this
theorem heldS_ev (T : Nat → ByteArray) (hT : ∀ m : Nat, m ≤ 1000000000000 → Ev (fun k => laws_markText.f k (m : Int)) (T m)) (n m : Nat) (hl : n + m ≤ 1000000000000) :
    Ev (fun k => laws_heldStringS.f k (marked T m n) (m : Int)) ((m + n : Nat) : Int) := by
  have key : ∀ d (i : Nat), i ≤ n → n - i = d → Ev (fun k => laws_heldStringS.l0 k (marked T m n) ((m + i : Nat) : Int) (i : Int)) ((m + n : Nat) : Int) := by
    intro d
    induction d with
    | zero =>
      intro i hi hd
      obtain rfl : i = n := by omega
      exact Ev.step (f := fun _ => some ((m + i : Nat) : Int)) (fun k => by simp only [laws_heldStringS.l0]; rw [marked_length, if_neg (by omega)]) (Ev.now _)
    | succ d ih =>
      intro i hi hd
      have hg : rdOf ByteArray.empty (marked T m n) (i : Int) = T (m + i) := by
        rw [rdB_nat (by rw [marked_length]; omega)]
        simp [marked]
      refine Ev.step (fun k => ?_) (Ev.bind (hT (m + i) (by omega)) (f := fun k t => if (T (m + i)).toList = t.toList then laws_heldStringS.l0 k (marked T m n) ((m + (i + 1) : Nat) : Int) ((i + 1 : Nat) : Int) else some (-1)) ?_)
      · simp only [laws_heldStringS.l0]
        rw [marked_length, if_pos (by omega), if_pos (by omega), hg, wsucc (n := m + i) (by omega), wsucc (n := i) (by omega)]
        rfl
      · simp only [if_true]
        exact ih (i + 1) (by omega) (by omega)
  exact key n 0 (by omega) (by omega)

theorem FnExactEncode : laws_FnExactEncode.Pure := by
  intro s u _ hu
  obtain ⟨h1, h2⟩ := hu
  have hml : u.length ≤ 9223372036854775807 := h1
  obtain ⟨T, hT⟩ := markText_fun
  obtain ⟨r, hr, hr2⟩ := szStrS_ex u hml (fun y hy => h2 y hy) 1048576 (by omega) (by omega)
  refine Ev.rounds ?_
  unfold laws_FnExactEncode.f
  refine Ev.bind hr ?_
  rcases hr2 with c | ⟨r0, r1, b1, b2⟩
  · exact Ev.pos c (Ev.now _)
  refine Ev.neg (by omega) ?_
  have hl : u.length ≤ 1048576 := by omega
  have hs : ∀ x ∈ u, x.size ≤ 1073741824 := fun x hx => by have := b2 x hx; omega
  have tS := toStrS_ev u (by omega)
  have sp := spec_Encode_ev s u (by omega) hs
  have im := impl_Encode_ev s u (by omega) hs
  have e8 := encV_size s u
  obtain ⟨v, b, e⟩ : ∃ v b, encV s u = (v, b) := ⟨_, _, rfl⟩
  rw [e] at sp im e8
  replace e8 : v.length ≤ 8 := e8
  have ev := eqS_ev v (by omega)
  have eu := eqS_ev u (by omega)
  have m1 := markS_ev T hT u 1 (by omega)
  have m2 := markS_ev T hT v 1 (by omega)
  have hd := heldS_ev T hT v.length 1 (by omega)
  have j2 : Ev (fun k => laws_FnExactEncode.j2 k (marked T 1 v.length) ((1 + v.length : Nat) : Int) (b != b)) true := by
    refine Ev.step (f := fun k => (laws_heldStringS.f k (marked T 1 v.length) 1).bind fun t325 => if t325 < 0 then some false else if t325 = ((1 + v.length : Nat) : Int) then some true else some false) (fun k => by simp only [laws_FnExactEncode.j2, bne_self_eq_false, Bool.false_eq_true, if_false]) ?_
    exact Ev.bind hd (Ev.neg (by omega) (Ev.pos (by omega) (Ev.now _)))
  have j1 : Ev (fun k => laws_FnExactEncode.j1 k s u v b v (b != b)) true := by
    refine Ev.step (f := fun k => (laws_markStringS.f k v 1).bind fun bt314 => (laws_heldStringS.f k bt314.2 1).bind fun t316 => if t316 < 0 then some false else if t316 = bt314.1 then ((laws_toStringS.f k u).bind fun t317 => (impl_Encode.f k s t317).bind fun bt320 => (laws_eqStringS.f k bt320.1 v).bind fun t324 => if t324 = true then laws_FnExactEncode.j2 k bt314.2 bt314.1 (bt320.2 != b) else laws_FnExactEncode.j2 k bt314.2 bt314.1 true) else some false) (fun k => by simp only [laws_FnExactEncode.j1, bne_self_eq_false, Bool.false_eq_true, if_false]) ?_
    exact Ev.bind m2 (Ev.bind hd (Ev.neg (by omega) (Ev.pos rfl (Ev.bind tS (Ev.bind im (Ev.bind ev (Ev.pos rfl j2)))))))
  refine Ev.bind tS (Ev.bind sp (Ev.bind tS (Ev.bind im (Ev.bind ev (Ev.pos rfl ?_)))))
  refine Ev.step (f := fun k => (laws_toStringS.f k u).bind fun t307 => (laws_eqStringS.f k u t307).bind fun t310 => if t310 = true then ((laws_markStringS.f k u 1).bind fun bt311 => if bt311.1 < 0 then laws_FnExactEncode.j1 k s u v b v true else (laws_eqStringS.f k v v).bind fun t313 => if t313 = true then laws_FnExactEncode.j1 k s u v b v (b != b) else laws_FnExactEncode.j1 k s u v b v true) else some false) (fun k => by simp only [laws_FnExactEncode.j0, bne_self_eq_false, Bool.false_eq_true, if_false]) ?_
  exact Ev.bind tS (Ev.bind eu (Ev.pos rfl (Ev.bind m1 (Ev.neg (by omega) (Ev.bind ev (Ev.pos rfl j1))))))


end Go.Proofs.Ytcpcphdhaboekaa.Pure
