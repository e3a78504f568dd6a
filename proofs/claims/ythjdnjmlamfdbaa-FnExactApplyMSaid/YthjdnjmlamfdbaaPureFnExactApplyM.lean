/- The program's ApplyM and the reference's ApplyM return the same, for every list of lists of numbers and every list of texts; the arguments are left alone, and what is returned is shared with nothing. -/
import Derived.Test.YthjdnjmlamfdbaaXFnExactApplyMx
import Derived.Test.YthjdnjmlamfdbaaWf
set_option linter.unusedVariables false
set_option linter.unusedSimpArgs false
namespace Go.Proofs.Ythjdnjmlamfdbaa.Pure
open Go.RowKit Go.Proofs.Ythjdnjmlamfdbaa.XFnExactApplyM Go.Proofs.YthjdnjmlamfdbaaW.PrintWords Go.Proofs.YthjdnjmlamfdbaaW.PrintLast

/-! ### small words -/
theorem w64 {x : Int} (h0 : -9223372036854775808 ≤ x) (h1 : x ≤ 9223372036854775807) : wrap64 x = x := by
  unfold wrap64
  omega
theorem wf64 {x : Int} (h : (Lit.int .i64 x).wf = true) : -9223372036854775808 ≤ x ∧ x ≤ 9223372036854775807 := by
  simp [Lit.wf, IntKind.min, IntKind.max, IntKind.signed, IntKind.bits] at h
  omega
theorem wfu32 {x : Int} (h : (Lit.int .u32 x).wf = true) : 0 ≤ x ∧ x ≤ 4294967295 := by
  simp [Lit.wf, IntKind.min, IntKind.max, IntKind.signed, IntKind.bits] at h
  omega
theorem wfu8 {x : Int} (h : (Lit.int .u8 x).wf = true) : 0 ≤ x ∧ x ≤ 255 := by
  simp [Lit.wf, IntKind.min, IntKind.max, IntKind.signed, IntKind.bits] at h
  omega
theorem wsucc {n : Nat} (h : n ≤ 4611686018427387904) : wrap64 ((n : Int) + 1) = ((n + 1 : Nat) : Int) := by
  rw [w64 (by omega) (by omega)]
  rfl
theorem wadd {a b : Nat} (h : a + b ≤ 4611686018427387904) : wrap64 ((a : Int) + (b : Int)) = ((a + b : Nat) : Int) := by
  rw [w64 (by omega) (by omega)]
  rfl
theorem wnat {n : Nat} (h : n ≤ 4611686018427387904) : wrap64 (n : Int) = (n : Int) := w64 (by omega) (by omega)
theorem Ev.some_bind {α β : Type} {a : Option α} {x : α} (h : a = some x) {f : Nat → α → Option β} {r : β} (k : Ev (fun n => f n x) r) : Ev (fun n => a.bind (f n)) r := by
  subst h
  exact k
theorem Ev.pos {α : Type} {p : Prop} [Decidable p] (h : p) {f g : Nat → Option α} {r : α} (k : Ev f r) : Ev (fun n => if p then f n else g n) r :=
  Ev.congr (fun _ => if_pos h) k
theorem Ev.neg {α : Type} {p : Prop} [Decidable p] (h : ¬ p) {f g : Nat → Option α} {r : α} (k : Ev g r) : Ev (fun n => if p then f n else g n) r :=
  Ev.congr (fun _ => if_neg h) k
theorem tmod_nat {x : Int} (h0 : 0 ≤ x) (N : Nat) : ∃ c : Nat, Int.tmod x ((N + 1 : Nat) : Int) = (c : Int) ∧ c ≤ N := by
  obtain ⟨c, hc⟩ := Int.eq_ofNat_of_zero_le (Int.tmod_nonneg ((N + 1 : Nat) : Int) h0)
  have hlt := Int.tmod_lt_of_pos x (show (0 : Int) < ((N + 1 : Nat) : Int) by omega)
  rw [hc] at hlt
  exact ⟨c, hc, by omega⟩

theorem strOfNums_size (xs : List Int) : (strOfNums xs).size = xs.length := by simp [strOfNums, ByteArray.size]
theorem str_ext {a b : ByteArray} (h : a.data.toList = b.data.toList) : a = b := by
  apply ByteArray.ext
  exact Array.toList_inj.1 h
theorem str_app (a b : ByteArray) : (a ++ b).data.toList = a.data.toList ++ b.data.toList := by simp [ByteArray.data_append]
theorem str_cut (s : ByteArray) (a b : Nat) : (s.extract a b).data.toList = (s.data.toList.drop a).take (b - a) := by
  obtain ⟨⟨l⟩⟩ := s
  simp [ByteArray.data_extract, List.extract_eq_take_drop]
theorem str_len (s : ByteArray) : s.data.toList.length = s.size := rfl
theorem str_toList {a b : ByteArray} : a.toList = b.toList ↔ a = b := by
  rw [ByteArray.toList_eq, ByteArray.toList_eq]
  exact ⟨str_ext, fun h => by rw [h]⟩
theorem str_split (s : ByteArray) (n : Nat) (h : n ≤ s.size) : s.extract 0 n ++ s.extract n s.size = s := by
  apply str_ext
  rw [str_app, str_cut, str_cut, List.drop_zero, Nat.sub_zero, List.take_of_length_le (l := s.data.toList.drop n) (by simp [str_len]), List.take_append_drop]
theorem str_app_inj {a b c : ByteArray} (h : a ++ b = a ++ c) : b = c := by
  have := congrArg (fun s : ByteArray => s.data.toList) h
  simp only [str_app] at this
  exact str_ext (List.append_cancel_left this)
theorem cut_size (s : ByteArray) {n : Nat} (h : n ≤ s.size) : (s.extract 0 n).size = n := by
  rw [ByteArray.size_extract]
  omega

theorem spec_l01In_eq (a l h : Int) : spec_l01In.f a l h = some (decide (l ≤ a ∧ a ≤ h)) := by
  unfold spec_l01In.f
  by_cases h1 : l ≤ a
  · rw [if_pos h1]; simp [h1]
  · rw [if_neg h1]; simp [h1]

theorem impl_within_eq (a l h : Int) : impl_within.f a l h = some (decide (l ≤ a ∧ a ≤ h)) := by
  unfold impl_within.f
  by_cases h1 : l ≤ a
  · rw [if_pos h1]; simp [h1]
  · rw [if_neg h1]; simp [h1]

/-! ### lists of lists of whole numbers: read -/
theorem rdI_nat {l : List Int} {i : Nat} (h : i < l.length) : rd l (i : Int) = l[i] := by
  unfold rd
  rw [Int.toNat_natCast, List.getD_eq_getElem?_getD, List.getElem?_eq_getElem h]
  rfl
theorem rdL_nat {l : List (List Int)} {i : Nat} (h : i < l.length) : rd_L1 l (i : Int) = l[i] := by
  unfold rd_L1
  rw [Int.toNat_natCast, List.getD_eq_getElem?_getD, List.getElem?_eq_getElem h]
  rfl
theorem rdI_mid (A : List Int) (x : Int) (B : List Int) : rd (A ++ x :: B) (A.length : Int) = x := by simp [rd]
theorem rdL_mid (A : List (List Int)) (x : List Int) (B : List (List Int)) : rd_L1 (A ++ x :: B) (A.length : Int) = x := by simp [rd_L1]
theorem set_midI {α : Type} (A : List α) (x v : α) (B : List α) : (A ++ x :: B).set A.length v = A ++ v :: B := by simp

/-! ### lists of lists of whole numbers: copied, measured -/
theorem toIntS_ev (l : List Int) (hl : l.length ≤ 35184372088832) : Ev (fun k => laws_toIntS.f k l) l := by
  have key : ∀ (B A : List Int), l = A ++ B → Ev (fun k => laws_toIntS.l0 k l (A ++ List.replicate B.length 0) (A.length : Int)) l := by
    intro B
    induction B with
    | nil =>
      intro A h
      refine Ev.step (f := fun _ => some l) (fun k => ?_) (Ev.now _)
      simp only [laws_toIntS.l0]
      rw [if_neg (by rw [h]; simp)]
      simp [h]
    | cons x B ih =>
      intro A h
      refine Ev.step (fun k => ?_) (ih (A ++ [x]) (by simp [h]))
      have e : l.length = A.length + (B.length + 1) := by rw [h]; simp
      simp only [laws_toIntS.l0]
      rw [if_pos (by omega), if_pos (by omega), if_pos (by simp; omega), wsucc (by omega), Int.toNat_natCast]
      have r : rd l (A.length : Int) = x := by rw [h]; exact rdI_mid A x B
      rw [r, List.length_cons, List.replicate_succ, set_midI]
      simp
  unfold laws_toIntS.f
  refine Ev.pos (by omega) (Ev.pos (by omega) ?_)
  have z := key l [] rfl
  simpa using z
theorem toIntSS_ev (l : List (List Int)) (hl : l.length ≤ 4503599627370496) (hr : ∀ r ∈ l, r.length ≤ 35184372088832) (hl2 : l.length ≤ 11728124029610) : Ev (fun k => laws_toIntSS.f k l) l := by
  have key : ∀ (B A : List (List Int)), l = A ++ B → Ev (fun k => laws_toIntSS.l0 k l (A ++ List.replicate B.length []) (A.length : Int)) l := by
    intro B
    induction B with
    | nil =>
      intro A h
      refine Ev.step (f := fun _ => some l) (fun k => ?_) (Ev.now _)
      simp only [laws_toIntSS.l0]
      rw [if_neg (by rw [h]; simp)]
      simp [h]
    | cons x B ih =>
      intro A h
      have e : l.length = A.length + (B.length + 1) := by rw [h]; simp
      have r : rd_L1 l (A.length : Int) = x := by rw [h]; exact rdL_mid A x B
      refine Ev.step (f := fun k => (laws_toIntS.f k x).bind fun t => laws_toIntSS.l0 k l ((A ++ List.replicate (B.length + 1) []).set A.length t) ((A.length + 1 : Nat) : Int)) (fun k => ?_) (Ev.bind (toIntS_ev x (hr x (by rw [h]; simp))) ?_)
      · simp only [laws_toIntSS.l0]
        rw [if_pos (by omega), if_pos (by omega), r, wsucc (by omega), Int.toNat_natCast]
        congr 1
        funext t
        rw [if_pos (by simp; omega), List.length_cons]
      · have z := ih (A ++ [x]) (by simp [h])
        rw [List.replicate_succ, set_midI]
        simpa using z
  unfold laws_toIntSS.f
  refine Ev.pos (by omega) (Ev.pos (by omega) ?_)
  have z := key l [] rfl
  simpa using z
theorem szIntSS_ex (l : List (List Int)) (hl : l.length ≤ 9223372036854775807) (hr : ∀ r ∈ l, r.length ≤ 9223372036854775807) (left : Int) (h0 : 0 ≤ left) (h1 : left ≤ 1099511627776) :
    ∃ r, Ev (fun k => laws_szIntSS.f k l left) r ∧ (r < 0 ∨ (0 ≤ r ∧ r ≤ left ∧ (l.length : Int) ≤ left ∧ ∀ x ∈ l, (x.length : Int) ≤ left)) := by
  unfold laws_szIntSS.f
  rw [w64 (x := left - (l.length : Int)) (by omega) (by omega)]
  by_cases c : left - (l.length : Int) < 0
  · exact ⟨-1, Ev.pos c (Ev.now _), Or.inl (by omega)⟩
  · have key : ∀ (B A : List (List Int)) (y : Int), l = A ++ B → 0 ≤ y → y ≤ left → ∃ r, Ev (fun k => laws_szIntSS.l0 k l y (A.length : Int)) r ∧ (r < 0 ∨ (0 ≤ r ∧ r ≤ y ∧ ∀ x ∈ B, (x.length : Int) ≤ left)) := by
      intro B
      induction B with
      | nil =>
        intro A y h hy0 hy1
        refine ⟨y, Ev.step (f := fun _ => some y) (fun k => ?_) (Ev.now _), Or.inr ⟨hy0, Int.le_refl _, by simp⟩⟩
        simp only [laws_szIntSS.l0]
        rw [if_neg (by rw [h]; simp)]
      | cons x B ih =>
        intro A y h hy0 hy1
        have e : l.length = A.length + (B.length + 1) := by rw [h]; simp
        have r : rd_L1 l (A.length : Int) = x := by rw [h]; exact rdL_mid A x B
        have hx : x.length ≤ 9223372036854775807 := hr x (by rw [h]; simp)
        by_cases cx : y - (x.length : Int) < 0
        · refine ⟨-1, Ev.step (f := fun _ => some (-1)) (fun k => ?_) (Ev.now _), Or.inl (by omega)⟩
          simp only [laws_szIntSS.l0, laws_szIntS.f]
          rw [if_pos (by omega), if_pos (by omega), r, w64 (x := y - (x.length : Int)) (by omega) (by omega), if_pos cx]
          rfl
        · obtain ⟨q, hq, hq2⟩ := ih (A ++ [x]) (y - (x.length : Int)) (by simp [h]) (by omega) (by omega)
          refine ⟨q, Ev.step (fun k => ?_) hq, ?_⟩
          · simp only [laws_szIntSS.l0, laws_szIntS.f]
            rw [if_pos (by omega), if_pos (by omega), r, w64 (x := y - (x.length : Int)) (by omega) (by omega), if_neg cx, Option.bind_some, if_neg cx, wsucc (by omega)]
            simp
          · rcases hq2 with hn | ⟨q0, q1, q2⟩
            · exact Or.inl hn
            · refine Or.inr ⟨q0, by omega, fun z hz => ?_⟩
              rcases List.mem_cons.mp hz with rfl | hz
              · omega
              · exact q2 z hz
    obtain ⟨r, h2, h3⟩ := key l [] (left - (l.length : Int)) rfl (by omega) (by omega)
    refine ⟨r, Ev.neg c ?_, ?_⟩
    · simpa using h2
    · rcases h3 with h3 | ⟨h4, h5, h6⟩
      · exact Or.inl h3
      · exact Or.inr ⟨h4, by omega, by omega, h6⟩

/-! ### lists of lists of whole numbers, compared -/
theorem eqIntS_ev (l : List Int) (hl : l.length ≤ 4611686018427387904) : Ev (fun k => laws_eqIntS.f k l l) true := by
  have key : ∀ d (i : Nat), i ≤ l.length → l.length - i = d → Ev (fun k => laws_eqIntS.l0 k l l (i : Int)) true := by
    intro d
    induction d with
    | zero =>
      intro i hi hd
      exact Ev.step (f := fun _ => some true) (fun k => by simp only [laws_eqIntS.l0]; rw [if_neg (by omega)]) (Ev.now _)
    | succ d ih =>
      intro i hi hd
      refine Ev.step (fun k => ?_) (ih (i + 1) (by omega) (by omega))
      simp only [laws_eqIntS.l0]
      rw [if_pos (by omega), if_pos (by omega), if_pos (by omega), wsucc (by omega)]
      simp only [if_true]
  unfold laws_eqIntS.f
  simp only [if_true]
  exact key l.length 0 (by omega) (by omega)
theorem eqIntSS_ev (l : List (List Int)) (hl : l.length ≤ 4611686018427387904) (hr : ∀ r ∈ l, r.length ≤ 4611686018427387904) : Ev (fun k => laws_eqIntSS.f k l l) true := by
  have key : ∀ (B A : List (List Int)), l = A ++ B → Ev (fun k => laws_eqIntSS.l0 k l l (A.length : Int)) true := by
    intro B
    induction B with
    | nil =>
      intro A h
      refine Ev.step (f := fun _ => some true) (fun k => ?_) (Ev.now _)
      simp only [laws_eqIntSS.l0]
      rw [if_neg (by rw [h]; simp)]
    | cons x B ih =>
      intro A h
      have e : l.length = A.length + (B.length + 1) := by rw [h]; simp
      have r : rd_L1 l (A.length : Int) = x := by rw [h]; exact rdL_mid A x B
      refine Ev.step (f := fun k => (laws_eqIntS.f k x x).bind fun t => if t = true then laws_eqIntSS.l0 k l l ((A.length + 1 : Nat) : Int) else some false) (fun k => ?_) (Ev.bind (eqIntS_ev x (hr x (by rw [h]; simp))) (Ev.pos rfl ?_))
      · simp only [laws_eqIntSS.l0]
        rw [if_pos (by omega), if_pos (by omega), if_pos (by omega), r, wsucc (by omega)]
      · have z := ih (A ++ [x]) (by simp [h])
        simpa using z
  unfold laws_eqIntSS.f
  simp only [if_true]
  exact key l [] rfl

/-! ### what a right matrix is -/
def inB (x : Int) : Bool := decide (0 ≤ x ∧ x ≤ 255)
def okR (n : Nat) (r : List Int) : Bool := decide (r.length = n) && r.all inB
def in18 (n : Nat) : Bool := decide (1 ≤ n ∧ n ≤ 8)
def okM (m : List (List Int)) : Bool := in18 m.length && in18 (m.headD []).length && m.all (okR (m.headD []).length)
theorem in18_int (n : Nat) : decide ((1 : Int) ≤ (n : Int) ∧ (n : Int) ≤ 8) = in18 n := by
  unfold in18
  by_cases h : 1 ≤ n ∧ n ≤ 8
  · rw [decide_eq_true h, decide_eq_true (by omega)]
  · rw [decide_eq_false h, decide_eq_false (by omega)]
theorem rdL_zero (m : List (List Int)) : rd_L1 m 0 = m.headD [] := by
  cases m <;> rfl

/-! ### spec.MatrixOk -/
theorem spec_MatrixOk_ev (m : List (List Int)) (hl : m.length ≤ 4611686018427387904) (hr : ∀ r ∈ m, r.length ≤ 4611686018427387904) : Ev (fun k => spec_MatrixOk.f k m) (okM m) := by
  have key : ∀ (B A : List (List Int)), m = A ++ B → Ev (fun k => spec_MatrixOk.l0 k m (A.length : Int)) (B.all (fun r => okR (m.headD []).length r && in18 (m.headD []).length) && in18 m.length) := by
    intro B
    induction B with
    | nil =>
      intro A h
      refine Ev.step (f := fun _ => some (in18 m.length)) (fun k => ?_) (Ev.now _)
      simp only [spec_MatrixOk.l0]
      rw [if_neg (by rw [h]; simp), spec_l01In_eq, in18_int]
      rfl
    | cons x B ih =>
      intro A h
      have e : m.length = A.length + (B.length + 1) := by rw [h]; simp
      have r : rd_L1 m (A.length : Int) = x := by rw [h]; exact rdL_mid A x B
      have hx : x.length ≤ 4611686018427387904 := hr x (by rw [h]; simp)
      have z := ih (A ++ [x]) (by simp [h])
      have inner : ∀ (D C : List Int), x = C ++ D → Ev (fun k => spec_MatrixOk.l1 k m (A.length : Int) (C.length : Int)) (D.all inB && (B.all (fun r => okR (m.headD []).length r && in18 (m.headD []).length) && in18 m.length)) := by
        intro D
        induction D with
        | nil =>
          intro C hc
          refine Ev.step (fun k => ?_) z
          simp only [spec_MatrixOk.l1]
          rw [if_pos (by omega), if_pos (by omega), r, if_neg (by rw [hc]; simp), wsucc (by omega)]
          simp
        | cons y D ihd =>
          intro C hc
          have ex : x.length = C.length + (D.length + 1) := by rw [hc]; simp
          have ry : rd x (C.length : Int) = y := by rw [hc]; exact rdI_mid C y D
          have zd := ihd (C ++ [y]) (by simp [hc])
          by_cases hy : inB y = true
          · rw [List.all_cons, hy, Bool.true_and]
            refine Ev.step (fun k => ?_) zd
            simp only [spec_MatrixOk.l1]
            rw [if_pos (by omega), if_pos (by omega), r, if_pos (by omega), if_pos (by omega), ry, spec_l01In_eq, Option.bind_some, if_pos (by exact hy), wsucc (by omega)]
            simp
          · rw [List.all_cons, Bool.eq_false_iff.mpr hy, Bool.false_and, Bool.false_and]
            refine Ev.step (f := fun _ => some false) (fun k => ?_) (Ev.now _)
            simp only [spec_MatrixOk.l1]
            rw [if_pos (by omega), if_pos (by omega), r, if_pos (by omega), if_pos (by omega), ry, spec_l01In_eq, Option.bind_some, if_neg (by exact hy)]
      have j : ∀ b : Bool, Ev (fun k => spec_MatrixOk.j1 k m (A.length : Int) b) (!b && (x.all inB && (B.all (fun r => okR (m.headD []).length r && in18 (m.headD []).length) && in18 m.length))) := by
        intro b
        cases b with
        | true => exact Ev.step (f := fun _ => some false) (fun k => by simp only [spec_MatrixOk.j1, if_true]) (Ev.now _)
        | false =>
          have y := inner x [] rfl
          rw [Bool.not_false, Bool.true_and]
          refine Ev.step (fun k => ?_) y
          simp only [spec_MatrixOk.j1, Bool.false_eq_true, if_false]
          rfl
      rw [List.all_cons]
      by_cases hn : x.length = (m.headD []).length
      · refine Ev.step (f := fun k => spec_MatrixOk.j1 k m (A.length : Int) (!in18 x.length)) (fun k => ?_) ?_
        · simp only [spec_MatrixOk.l0]
          rw [if_pos (by omega), if_pos (by omega), if_pos (by omega), r, rdL_zero, if_pos (by omega), spec_l01In_eq, Option.bind_some, in18_int]
        · have jj := j (!in18 x.length)
          have eqv : (okR (m.headD []).length x && in18 (m.headD []).length && B.all (fun r => okR (m.headD []).length r && in18 (m.headD []).length) && in18 m.length) = (!(!in18 x.length) && (x.all inB && (B.all (fun r => okR (m.headD []).length r && in18 (m.headD []).length) && in18 m.length))) := by
            unfold okR
            rw [hn, decide_eq_true rfl]
            cases x.all inB <;> cases in18 (m.headD []).length <;> rfl
          rw [eqv]
          exact jj
      · refine Ev.step (f := fun k => spec_MatrixOk.j1 k m (A.length : Int) true) (fun k => ?_) ?_
        · simp only [spec_MatrixOk.l0]
          rw [if_pos (by omega), if_pos (by omega), if_pos (by omega), r, rdL_zero, if_neg (by omega)]
        · have jj := j true
          have eqv : (okR (m.headD []).length x && in18 (m.headD []).length && B.all (fun r => okR (m.headD []).length r && in18 (m.headD []).length) && in18 m.length) = false := by
            unfold okR
            rw [decide_eq_false hn]
            rfl
          rw [eqv]
          exact jj
  have z := key m [] rfl
  have e : okM m = (m.all (fun r => okR (m.headD []).length r && in18 (m.headD []).length) && in18 m.length) := by
    cases m with
    | nil => rfl
    | cons x B =>
      unfold okM
      cases hx : in18 ((x :: B).headD []).length with
      | true =>
        simp only [Bool.and_true]
        exact Bool.and_comm _ _
      | false => simp
  rw [e]
  exact z

/-! ### impl.MatrixOk -/
theorem closure_eq (x : Int) : impl_MatrixOk_1.f x = some (!inB x) := by
  unfold impl_MatrixOk_1.f
  rw [impl_within_eq]
  rfl
theorem idx_ev (l : List Int) (hl : l.length ≤ 4611686018427387904) : ∃ r : Int, Ev (fun k => slices_IndexFunc_int_int.f k l) r ∧ decide (r ≥ 0) = !(l.all inB) := by
  have key : ∀ (B A : List Int), l = A ++ B → ∃ r : Int, Ev (fun k => slices_IndexFunc_int_int.l0 k l (l.length : Int) (A.length : Int)) r ∧ decide (r ≥ 0) = !(B.all inB) := by
    intro B
    induction B with
    | nil =>
      intro A h
      refine ⟨-1, Ev.step (f := fun _ => some (-1)) (fun k => ?_) (Ev.now _), rfl⟩
      simp only [slices_IndexFunc_int_int.l0]
      rw [if_neg (by rw [h]; simp)]
    | cons x B ih =>
      intro A h
      have e : l.length = A.length + (B.length + 1) := by rw [h]; simp
      have r : rd l (A.length : Int) = x := by rw [h]; exact rdI_mid A x B
      by_cases hx : inB x = true
      · obtain ⟨q, hq, hq2⟩ := ih (A ++ [x]) (by simp [h])
        refine ⟨q, Ev.step (fun k => ?_) hq, by rw [List.all_cons, hx, Bool.true_and]; exact hq2⟩
        simp only [slices_IndexFunc_int_int.l0]
        rw [if_pos (by omega), if_pos (by omega), if_pos (by omega), r, closure_eq, hx, Option.bind_some, if_neg (by simp), wsucc (by omega)]
        simp
      · refine ⟨(A.length : Int), Ev.step (f := fun _ => some (A.length : Int)) (fun k => ?_) (Ev.now _), ?_⟩
        · simp only [slices_IndexFunc_int_int.l0]
          rw [if_pos (by omega), if_pos (by omega), if_pos (by omega), r, closure_eq, Option.bind_some, if_pos (by simp [hx])]
        · rw [List.all_cons, Bool.eq_false_iff.mpr hx, decide_eq_true (by omega)]
          rfl
  exact key l [] rfl
theorem cont_ev (l : List Int) (hl : l.length ≤ 4611686018427387904) : Ev (fun k => slices_ContainsFunc_int_int.f k l) (!(l.all inB)) := by
  obtain ⟨r, h1, h2⟩ := idx_ev l hl
  unfold slices_ContainsFunc_int_int.f
  refine Ev.bind h1 ?_
  rw [h2]
  exact Ev.now _
theorem impl_MatrixOk_ev (m : List (List Int)) (hl : m.length ≤ 4611686018427387904) (hr : ∀ r ∈ m, r.length ≤ 4611686018427387904) : Ev (fun k => impl_MatrixOk.f k m) (okM m) := by
  have key : ∀ (B A : List (List Int)), m = A ++ B → Ev (fun k => impl_MatrixOk.l0 k m m (m.length : Int) (A.length : Int)) (B.all (okR (m.headD []).length)) := by
    intro B
    induction B with
    | nil =>
      intro A h
      refine Ev.step (f := fun _ => some true) (fun k => ?_) (Ev.now _)
      simp only [impl_MatrixOk.l0]
      rw [if_neg (by rw [h]; simp)]
    | cons x B ih =>
      intro A h
      have e : m.length = A.length + (B.length + 1) := by rw [h]; simp
      have r : rd_L1 m (A.length : Int) = x := by rw [h]; exact rdL_mid A x B
      have hx : x.length ≤ 4611686018427387904 := hr x (by rw [h]; simp)
      have z := ih (A ++ [x]) (by simp [h])
      rw [List.all_cons]
      by_cases hn : x.length = (m.headD []).length
      · refine Ev.step (f := fun k => (slices_ContainsFunc_int_int.f k x).bind fun t => if t = true then some false else impl_MatrixOk.l0 k m m (m.length : Int) ((A.length + 1 : Nat) : Int)) (fun k => ?_) (Ev.bind (cont_ev x hx) ?_)
        · simp only [impl_MatrixOk.l0]
          rw [if_pos (by omega), if_pos (by omega), if_pos (by omega), if_pos (by omega), r, rdL_zero, if_pos (by omega), wsucc (by omega)]
        · have hok : okR (m.headD []).length x = x.all inB := by
            unfold okR
            rw [decide_eq_true hn, Bool.true_and]
          rw [hok]
          cases hb : x.all inB with
          | true =>
            refine Ev.neg (by simp) ?_
            simpa using z
          | false => exact Ev.pos (by rfl) (Ev.now _)
      · have hok : okR (m.headD []).length x = false := by
          unfold okR
          rw [decide_eq_false hn, Bool.false_and]
        rw [hok, Bool.false_and]
        refine Ev.step (f := fun _ => some false) (fun k => ?_) (Ev.now _)
        simp only [impl_MatrixOk.l0]
        rw [if_pos (by omega), if_pos (by omega), if_pos (by omega), if_pos (by omega), r, rdL_zero, if_neg (by omega)]
  unfold impl_MatrixOk.f okM
  rw [impl_within_eq, in18_int]
  cases h1 : in18 m.length with
  | false =>
    refine Ev.congr (g := fun k => _) (f := fun k => impl_MatrixOk.j0 k m true) (fun k => ?_) ?_
    · rw [Option.bind_some, if_neg (by simp)]
    · exact Ev.step (f := fun _ => some false) (fun k => by simp only [impl_MatrixOk.j0, if_true]) (Ev.now _)
  | true =>
    have hp : 1 ≤ m.length := (of_decide_eq_true h1).1
    refine Ev.congr (f := fun k => impl_MatrixOk.j0 k m (!in18 (m.headD []).length)) (fun k => ?_) ?_
    · rw [Option.bind_some, if_pos rfl, if_pos (by omega), impl_within_eq, rdL_zero, in18_int, Option.bind_some]
    · cases h2 : in18 (m.headD []).length with
      | false => exact Ev.step (f := fun _ => some false) (fun k => by simp only [impl_MatrixOk.j0, Bool.not_false, if_true]) (Ev.now _)
      | true =>
        refine Ev.step (fun k => ?_) (key m [] rfl)
        simp only [impl_MatrixOk.j0, Bool.not_true, Bool.false_eq_true, if_false]
        rfl

/- Plain law: the field of bytes (polynomials over bits modulo 285), over natural numbers. -/
namespace Gf

/-- One step: times x. -/
def xt (a : Nat) : Nat := if 255 < 2 * a then (2 * a) ^^^ 285 else 2 * a

/-- The product, bit by bit of b. -/
def gm : Nat → Nat → Nat → Nat
  | 0, _, _ => 0
  | n + 1, a, b => (if b % 2 = 1 then a else 0) ^^^ gm n (xt a) (b / 2)

def mul (a b : Nat) : Nat := gm 8 a b

theorem xor_mod2 (a b : Nat) : (a ^^^ b) % 2 = (a % 2 + b % 2) % 2 := by
  have h := Nat.testBit_xor (x := a) (y := b) (i := 0)
  simp only [Nat.testBit_zero] at h
  have hX : (a ^^^ b) % 2 < 2 := Nat.mod_lt _ (by omega)
  have h1 : a % 2 = 0 ∨ a % 2 = 1 := by omega
  have h2 : b % 2 = 0 ∨ b % 2 = 1 := by omega
  generalize (a ^^^ b) % 2 = X at h hX ⊢
  rcases h1 with h1 | h1 <;> rcases h2 with h2 | h2 <;> rw [h1, h2] at h ⊢ <;> simp at h <;> omega

theorem xor_div2 (a b : Nat) : (a ^^^ b) / 2 = (a / 2) ^^^ (b / 2) := Nat.xor_div_two

theorem xor_lt {a b n : Nat} (ha : a < 2 ^ n) (hb : b < 2 ^ n) : a ^^^ b < 2 ^ n := Nat.xor_lt_two_pow ha hb

theorem xt_lt {a : Nat} (h : a < 256) : xt a < 256 := by
  have : ∀ a : Fin 256, xt a.val < 256 := by decide +kernel
  exact this ⟨a, h⟩

theorem two_mul_xor (a b : Nat) : 2 * (a ^^^ b) = (2 * a) ^^^ (2 * b) := by
  have h := Nat.shiftLeft_xor_distrib (a := a) (b := b) (i := 1)
  simp only [Nat.shiftLeft_eq, Nat.pow_one] at h
  rw [Nat.mul_comm 2, Nat.mul_comm 2, Nat.mul_comm 2]
  exact h

theorem top_xor {a b : Nat} (ha : a < 256) (hb : b < 256) : (a ^^^ b) / 128 = (a / 128 + b / 128) % 2 := by
  have h : ((a ^^^ b) >>> 7) = (a >>> 7) ^^^ (b >>> 7) := Nat.shiftRight_xor_distrib
  simp only [Nat.shiftRight_eq_div_pow] at h
  have h1 : a / 2 ^ 7 < 2 := by omega
  have h2 : b / 2 ^ 7 < 2 := by omega
  have h3 := xor_mod2 (a / 2 ^ 7) (b / 2 ^ 7)
  have h4 : (a / 2 ^ 7) ^^^ (b / 2 ^ 7) < 2 ^ 1 := xor_lt (by omega) (by omega)
  omega

theorem xt_eq {a : Nat} (h : a < 256) : xt a = (2 * a) ^^^ (if a / 128 = 1 then 285 else 0) := by
  unfold xt
  by_cases h1 : 255 < 2 * a
  · rw [if_pos h1, if_pos (by omega)]
  · rw [if_neg h1, if_neg (by omega), Nat.xor_zero]

theorem xt_xor {a b : Nat} (ha : a < 256) (hb : b < 256) : xt (a ^^^ b) = xt a ^^^ xt b := by
  have hab : a ^^^ b < 256 := xor_lt (n := 8) ha hb
  rw [xt_eq ha, xt_eq hb, xt_eq hab, two_mul_xor, top_xor ha hb]
  have h1 : a / 128 = 0 ∨ a / 128 = 1 := by omega
  have h2 : b / 128 = 0 ∨ b / 128 = 1 := by omega
  rcases h1 with h1 | h1 <;> rcases h2 with h2 | h2 <;> rw [h1, h2] <;> simp
  · ac_rfl
  · ac_rfl
  · rw [show (2 * a ^^^ 285) ^^^ (2 * b ^^^ 285) = (285 ^^^ 285) ^^^ (2 * a ^^^ 2 * b) by ac_rfl, Nat.xor_self, Nat.zero_xor]

theorem gm_lt (n : Nat) : ∀ {a : Nat} (b : Nat), a < 256 → gm n a b < 256 := by
  induction n with
  | zero => intro a b _; simp [gm]
  | succ n ih =>
    intro a b h
    unfold gm
    refine xor_lt (n := 8) ?_ (ih _ (xt_lt h))
    split <;> omega

theorem gm_xor_left (n : Nat) : ∀ {a c : Nat} (b : Nat), a < 256 → c < 256 → gm n (a ^^^ c) b = gm n a b ^^^ gm n c b := by
  induction n with
  | zero => intro a c b _ _; simp [gm]
  | succ n ih =>
    intro a c b ha hc
    simp only [gm]
    rw [xt_xor ha hc, ih _ (xt_lt ha) (xt_lt hc)]
    by_cases h : b % 2 = 1
    · simp only [if_pos h]; ac_rfl
    · simp only [if_neg h, Nat.zero_xor]

theorem gm_xor_right (n : Nat) : ∀ (a b c : Nat), gm n a (b ^^^ c) = gm n a b ^^^ gm n a c := by
  induction n with
  | zero => intro a b c; simp [gm]
  | succ n ih =>
    intro a b c
    simp only [gm]
    rw [xor_div2, ih, xor_mod2]
    have h1 : b % 2 = 0 ∨ b % 2 = 1 := by omega
    have h2 : c % 2 = 0 ∨ c % 2 = 1 := by omega
    rcases h1 with h1 | h1 <;> rcases h2 with h2 | h2 <;> rw [h1, h2] <;> simp
    · rw [← Nat.xor_assoc, Nat.xor_comm a, Nat.xor_assoc]
    · rw [Nat.xor_assoc]
    · have : a ^^^ gm n (xt a) (b / 2) ^^^ (a ^^^ gm n (xt a) (c / 2)) = (a ^^^ a) ^^^ (gm n (xt a) (b / 2) ^^^ gm n (xt a) (c / 2)) := by ac_rfl
      rw [this, Nat.xor_self, Nat.zero_xor]

theorem mul_lt {a : Nat} (b : Nat) (h : a < 256) : mul a b < 256 := gm_lt 8 b h
theorem mul_xor_left {a c : Nat} (b : Nat) (ha : a < 256) (hc : c < 256) : mul (a ^^^ c) b = mul a b ^^^ mul c b := gm_xor_left 8 b ha hc
theorem mul_xor_right (a b c : Nat) : mul a (b ^^^ c) = mul a b ^^^ mul a c := gm_xor_right 8 a b c

/-- Two functions that go through sums are one, if they are at the powers of two. -/
theorem add_ext (f g : Nat → Nat) (h0 : f 0 = g 0) (hf : ∀ a b, a < 256 → b < 256 → f (a ^^^ b) = f a ^^^ f b) (hg : ∀ a b, a < 256 → b < 256 → g (a ^^^ b) = g a ^^^ g b)
    (h : ∀ i, i < 8 → f (2 ^ i) = g (2 ^ i)) : ∀ a, a < 256 → f a = g a := by
  have key : ∀ n, n ≤ 8 → ∀ a, a < 2 ^ n → f a = g a := by
    intro n
    induction n with
    | zero => intro _ a ha; have : a = 0 := by omega
              rw [this, h0]
    | succ n ih =>
      intro hn a ha
      by_cases hlt : a < 2 ^ n
      · exact ih (by omega) a hlt
      · have h256 : 2 ^ (n + 1) ≤ 2 ^ 8 := Nat.pow_le_pow_right (by omega) hn
        have hs : 2 ^ (n + 1) = 2 * 2 ^ n := by rw [Nat.pow_succ]; omega
        have hr : a - 2 ^ n < 2 ^ n := by omega
        have he : a = 2 ^ n ^^^ (a - 2 ^ n) := by
          have h1 : 2 ^ n + (a - 2 ^ n) = 2 ^ n ^^^ (a - 2 ^ n) := by
            have := Nat.two_pow_add_eq_or_of_lt (i := n) (b := a - 2 ^ n) hr 1
            have h2 : (2 ^ n ||| (a - 2 ^ n)) = 2 ^ n ^^^ (a - 2 ^ n) := by
              apply Nat.eq_of_testBit_eq
              intro j
              rw [Nat.testBit_or, Nat.testBit_xor, Nat.testBit_two_pow]
              by_cases hj : n = j
              · subst hj
                rw [Nat.testBit_lt_two_pow hr]
                simp
              · simp [hj]
            rw [← h2]
            simpa using this
          omega
        rw [he, hf _ _ (by omega) (by omega), hg _ _ (by omega) (by omega), h n (by omega), ih (by omega) _ hr]
  intro a ha
  exact key 8 (Nat.le_refl _) a (by simpa using ha)

theorem mul_zero_right (a : Nat) : mul a 0 = 0 := by
  have : ∀ n a, gm n a 0 = 0 := by
    intro n
    induction n with
    | zero => intro a; rfl
    | succ n ih => intro a; simp [gm, ih]
  exact this 8 a
theorem mul_zero_left (b : Nat) : mul 0 b = 0 := by
  have : ∀ n b, gm n 0 b = 0 := by
    intro n
    induction n with
    | zero => intro b; rfl
    | succ n ih => intro b; simp [gm, xt, ih]
  exact this 8 b

theorem pow2_lt {i : Nat} (h : i < 8) : 2 ^ i < 256 := by
  have : 2 ^ i < 2 ^ 8 := Nat.pow_lt_pow_right (by omega) h
  omega

theorem mul_comm {a b : Nat} (ha : a < 256) (hb : b < 256) : mul a b = mul b a := by
  have base : ∀ i : Fin 8, ∀ j : Fin 8, mul (2 ^ i.val) (2 ^ j.val) = mul (2 ^ j.val) (2 ^ i.val) := by decide +kernel
  have step : ∀ i, i < 8 → ∀ b, b < 256 → mul (2 ^ i) b = mul b (2 ^ i) := by
    intro i hi
    refine add_ext (fun b => mul (2 ^ i) b) (fun b => mul b (2 ^ i)) ?_ ?_ ?_ ?_
    · show mul _ _ = mul _ _
      rw [mul_zero_right, mul_zero_left]
    · intro a b _ _; exact mul_xor_right _ _ _
    · intro a b ha hb; exact mul_xor_left _ ha hb
    · intro j hj; exact base ⟨i, hi⟩ ⟨j, hj⟩
  refine add_ext (fun a => mul a b) (fun a => mul b a) ?_ ?_ ?_ ?_ a ha
  · show mul _ _ = mul _ _
    rw [mul_zero_right, mul_zero_left]
  · intro a c ha hc; exact mul_xor_left _ ha hc
  · intro a c _ _; exact mul_xor_right _ _ _
  · intro i hi; exact step i hi b hb

theorem mul_assoc {a b c : Nat} (ha : a < 256) (hb : b < 256) (hc : c < 256) : mul (mul a b) c = mul a (mul b c) := by
  have base : ∀ i j k : Fin 8, mul (mul (2 ^ i.val) (2 ^ j.val)) (2 ^ k.val) = mul (2 ^ i.val) (mul (2 ^ j.val) (2 ^ k.val)) := by decide +kernel
  have s1 : ∀ i, i < 8 → ∀ j, j < 8 → ∀ c, c < 256 → mul (mul (2 ^ i) (2 ^ j)) c = mul (2 ^ i) (mul (2 ^ j) c) := by
    intro i hi j hj
    refine add_ext (fun c => mul (mul (2 ^ i) (2 ^ j)) c) (fun c => mul (2 ^ i) (mul (2 ^ j) c)) ?_ ?_ ?_ ?_
    · show mul _ _ = mul _ _
      rw [mul_zero_right, mul_zero_right, mul_zero_right]
    · intro a b _ _; exact mul_xor_right _ _ _
    · intro a b _ _
      show mul _ (mul _ _) = mul _ (mul _ _) ^^^ mul _ (mul _ _)
      rw [mul_xor_right, mul_xor_right]
    · intro k hk; exact base ⟨i, hi⟩ ⟨j, hj⟩ ⟨k, hk⟩
  have s2 : ∀ i, i < 8 → ∀ b, b < 256 → mul (mul (2 ^ i) b) c = mul (2 ^ i) (mul b c) := by
    intro i hi
    refine add_ext (fun b => mul (mul (2 ^ i) b) c) (fun b => mul (2 ^ i) (mul b c)) ?_ ?_ ?_ ?_
    · show mul (mul _ _) _ = mul _ (mul _ _)
      rw [mul_zero_right, mul_zero_left, mul_zero_right]
    · intro a b ha hb
      show mul (mul _ _) _ = mul (mul _ _) _ ^^^ mul (mul _ _) _
      rw [mul_xor_right, mul_xor_left _ (mul_lt _ (pow2_lt hi)) (mul_lt _ (pow2_lt hi))]
    · intro a b ha hb
      show mul _ (mul _ _) = mul _ (mul _ _) ^^^ mul _ (mul _ _)
      rw [mul_xor_left _ ha hb, mul_xor_right]
    · intro j hj; exact s1 i hi j hj c hc
  refine add_ext (fun a => mul (mul a b) c) (fun a => mul a (mul b c)) ?_ ?_ ?_ ?_ a ha
  · show mul (mul _ _) _ = mul _ (mul _ _)
    rw [mul_zero_left, mul_zero_left, mul_zero_left]
  · intro x y hx hy
    show mul (mul _ _) _ = mul (mul _ _) _ ^^^ mul (mul _ _) _
    rw [mul_xor_left _ hx hy, mul_xor_left _ (mul_lt _ hx) (mul_lt _ hy)]
  · intro x y hx hy; exact mul_xor_left _ hx hy
  · intro i hi; exact s2 i hi b hb

theorem mul_one_right {a : Nat} : mul a 1 = a := by
  unfold mul
  simp only [gm]
  simp

theorem mul_one_left {a : Nat} (h : a < 256) : mul 1 a = a := by
  rw [mul_comm (by omega) h, mul_one_right]

def pow (a : Nat) : Nat → Nat
  | 0 => 1
  | n + 1 => mul (pow a n) a

theorem pow_lt {a : Nat} (h : a < 256) : ∀ n, pow a n < 256
  | 0 => by simp [pow]
  | n + 1 => mul_lt _ (pow_lt h n)

theorem pow_add {a : Nat} (h : a < 256) (n m : Nat) : pow a (n + m) = mul (pow a n) (pow a m) := by
  induction m with
  | zero => simp [pow, mul_one_right]
  | succ m ih =>
    show mul (pow a (n + m)) a = mul (pow a n) (mul (pow a m) a)
    rw [ih, mul_assoc (pow_lt h n) (pow_lt h m) h]

def sq (a : Nat) : Nat := mul a a
/-- a 254 times, by squares. -/
def inv254 (a : Nat) : Nat :=
  let a2 := sq a
  let a4 := sq a2
  let a8 := sq a4
  let a16 := sq a8
  let a32 := sq a16
  let a64 := sq a32
  let a128 := sq a64
  mul (mul (mul (mul (mul (mul a128 a64) a32) a16) a8) a4) a2

theorem pow_dbl {a : Nat} (h : a < 256) (n : Nat) : pow a (n + n) = sq (pow a n) := pow_add h n n

theorem pow_254 {a : Nat} (h : a < 256) : pow a 254 = inv254 a := by
  have p1 : pow a 1 = a := by show mul 1 a = a; exact mul_one_left h
  have p2 : pow a 2 = sq a := by rw [show (2 : Nat) = 1 + 1 from rfl, pow_dbl h, p1]
  have p4 : pow a 4 = sq (sq a) := by rw [show (4 : Nat) = 2 + 2 from rfl, pow_dbl h, p2]
  have p8 : pow a 8 = sq (sq (sq a)) := by rw [show (8 : Nat) = 4 + 4 from rfl, pow_dbl h, p4]
  have p16 : pow a 16 = sq (sq (sq (sq a))) := by rw [show (16 : Nat) = 8 + 8 from rfl, pow_dbl h, p8]
  have p32 : pow a 32 = sq (sq (sq (sq (sq a)))) := by rw [show (32 : Nat) = 16 + 16 from rfl, pow_dbl h, p16]
  have p64 : pow a 64 = sq (sq (sq (sq (sq (sq a))))) := by rw [show (64 : Nat) = 32 + 32 from rfl, pow_dbl h, p32]
  have p128 : pow a 128 = sq (sq (sq (sq (sq (sq (sq a)))))) := by rw [show (128 : Nat) = 64 + 64 from rfl, pow_dbl h, p64]
  rw [show (254 : Nat) = 128 + 64 + 32 + 16 + 8 + 4 + 2 from rfl, pow_add h, pow_add h, pow_add h, pow_add h, pow_add h, pow_add h, p128, p64, p32, p16, p8, p4, p2]
  rfl

theorem mul_inv {a : Nat} (h : a < 256) (h0 : a ≠ 0) : mul a (pow a 254) = 1 := by
  rw [pow_254 h]
  have key : ∀ a : Fin 256, a.val ≠ 0 → mul a.val (inv254 a.val) = 1 := by decide +kernel
  exact key ⟨a, h⟩ h0

/-- What is 1 with a is a 254 times. -/
theorem inv_unique {a b : Nat} (ha : a < 256) (hb : b < 256) (h : mul a b = 1) : b = pow a 254 := by
  have h0 : a ≠ 0 := by
    rintro rfl
    rw [mul_zero_left] at h
    omega
  have hp := pow_lt ha 254
  have h1 : mul (mul (pow a 254) a) b = b := by
    rw [mul_comm hp ha, mul_inv ha h0, mul_one_left hb]
  rw [mul_assoc hp ha hb, h, mul_one_right] at h1
  exact h1.symm

theorem pow_zero_base (n : Nat) : pow 0 (n + 1) = 0 := mul_zero_right _

end Gf

/-! ### products of bytes -/
def modb (a : Int) : Nat := (a % 256).toNat
theorem modb_lt (a : Int) : modb a < 256 := by unfold modb; omega
theorem modb_nat {a : Nat} (h : a < 256) : modb (a : Int) = a := by unfold modb; omega
theorem bits_xor64 {a b : Nat} (ha : a < 2 ^ 63) (hb : b < 2 ^ 63) : Go.bits .xor .i64 (a : Int) (b : Int) = ((a ^^^ b : Nat) : Int) := by
  have hx : a ^^^ b < 2 ^ 63 := Nat.xor_lt_two_pow ha hb
  have e : (BitVec.ofNat 64 a ^^^ BitVec.ofNat 64 b).toNat = a ^^^ b := by rw [BitVec.toNat_xor, BitVec.toNat_ofNat, BitVec.toNat_ofNat, Nat.mod_eq_of_lt (by omega), Nat.mod_eq_of_lt (by omega)]
  show IntKind.i64.wrap (((BitVec.ofInt 64 (a : Int)) ^^^ (BitVec.ofInt 64 (b : Int))).toNat : Int) = _
  rw [BitVec.ofInt_natCast, BitVec.ofInt_natCast, e, IntKind.wrap_i64]
  omega
theorem bits_and255 {a : Int} (h0 : -9223372036854775808 ≤ a) (h1 : a ≤ 9223372036854775807) : Go.bits .and .i64 a 255 = ((modb a : Nat) : Int) := by
  have e : ((BitVec.ofInt 64 a) &&& (BitVec.ofInt 64 255)).toNat = (a % 18446744073709551616).toNat % 256 := by
    rw [BitVec.toNat_and, BitVec.toNat_ofInt, show (BitVec.ofInt 64 255).toNat = 2 ^ 8 - 1 by decide, Nat.and_two_pow_sub_one_eq_mod]
    rfl
  show IntKind.i64.wrap (((BitVec.ofInt 64 a) &&& (BitVec.ofInt 64 255)).toNat : Int) = _
  rw [e, IntKind.wrap_i64]
  unfold modb
  omega
theorem bits_and1 {b : Nat} (h : b < 256) : Go.bits .and .i64 (b : Int) 1 = ((b % 2 : Nat) : Int) := by
  have e : ((BitVec.ofInt 64 (b : Int)) &&& (BitVec.ofInt 64 1)).toNat = b % 2 := by
    rw [BitVec.toNat_and, BitVec.ofInt_natCast, BitVec.toNat_ofNat, show (BitVec.ofInt 64 1).toNat = 2 ^ 1 - 1 by decide, Nat.and_two_pow_sub_one_eq_mod]
    show b % 2 ^ 64 % 2 ^ 1 = b % 2
    omega
  show IntKind.i64.wrap (((BitVec.ofInt 64 (b : Int)) &&& (BitVec.ofInt 64 1)).toNat : Int) = _
  rw [e, IntKind.wrap_i64]
  omega
def gmul (a b : Int) : Int := ((Gf.mul (modb a) (modb b) : Nat) : Int)
theorem gmul_range (a b : Int) : 0 ≤ gmul a b ∧ gmul a b ≤ 255 := by
  unfold gmul
  have := Gf.mul_lt (modb b) (modb_lt a)
  omega
theorem modb_gmul (a b : Int) : modb (gmul a b) = Gf.mul (modb a) (modb b) := modb_nat (Gf.mul_lt _ (modb_lt a))

theorem spec_l05Mod_eq {a : Int} (h0 : -9223372036854775808 ≤ a) (h1 : a ≤ 9223372036854775807) : spec_l05Mod.f a = some ((modb a : Nat) : Int) := by
  have e : Int.tmod a 256 = if a < 0 ∧ a % 256 ≠ 0 then a % 256 - 256 else a % 256 := by
    rcases Int.lt_or_le a 0 with h | h
    · obtain ⟨n, rfl⟩ : ∃ n : Nat, a = -(n : Int) := ⟨(-a).toNat, by omega⟩
      rw [Int.neg_tmod, Int.tmod_eq_emod_of_nonneg (by omega)]
      split <;> omega
    · rw [Int.tmod_eq_emod_of_nonneg h, if_neg (by omega)]
  unfold spec_l05Mod.f modb
  rw [e]
  by_cases c : a < 0 ∧ a % 256 ≠ 0
  · rw [if_pos c, if_pos (by omega), w64 (by omega) (by omega)]
    congr 1
    omega
  · rw [if_neg c, if_neg (by omega)]
    congr 1
    omega
theorem spec_MulG_l0 (n : Nat) : ∀ (a b out : Nat), a < 256 → b < 2 ^ n → n ≤ 8 → out < 256 → Ev (fun k => spec_MulG.l0 k (a : Int) (b : Int) (out : Int)) ((out ^^^ Gf.gm n a b : Nat) : Int) := by
  induction n with
  | zero =>
    intro a b out ha hb hn ho
    have hb0 : b = 0 := by omega
    subst hb0
    exact Ev.step (f := fun _ => some (out : Int)) (fun k => by simp only [spec_MulG.l0]; rw [if_neg (by omega)]) (by simpa [Gf.gm] using Ev.now _)
  | succ n ih =>
    intro a b out ha hb hn ho
    by_cases hb0 : b = 0
    · subst hb0
      have hz : Gf.gm (n + 1) a 0 = 0 := by
        have : ∀ n a, Gf.gm n a 0 = 0 := by
          intro n
          induction n with
          | zero => intro a; rfl
          | succ n ih => intro a; simp [Gf.gm, ih]
        exact this _ _
      rw [hz, Nat.xor_zero]
      exact Ev.step (f := fun _ => some (out : Int)) (fun k => by simp only [spec_MulG.l0]; rw [if_neg (by omega)]) (Ev.now _)
    · have h8 : 2 ^ n ≤ 2 ^ 8 := Nat.pow_le_pow_right (by omega) (by omega)
      have h9 : 2 ^ (n + 1) = 2 * 2 ^ n := by rw [Nat.pow_succ]; omega
      have h10 : 2 ^ (n + 1) ≤ 2 ^ 8 := Nat.pow_le_pow_right (by omega) hn
      have hm : Int.tmod (b : Int) 2 = ((b % 2 : Nat) : Int) := by rw [Int.tmod_eq_emod_of_nonneg (by omega)]; rfl
      have hd : wrap64 (Int.tdiv (b : Int) 2) = ((b / 2 : Nat) : Int) := by rw [Int.tdiv_eq_ediv_of_nonneg (by omega), w64 (by omega) (by omega)]; rfl
      have h2 : wrap64 (2 * (a : Int)) = ((2 * a : Nat) : Int) := by rw [w64 (by omega) (by omega)]; rfl
      have hx : ∀ m : Nat, m < 256 → (out ^^^ (if b % 2 = 1 then a else 0) ^^^ Gf.gm n (Gf.xt a) (b / 2)) = (out ^^^ Gf.gm (n + 1) a b) := by
        intro m _
        rw [Gf.gm, Nat.xor_assoc]
      have hxa : Go.bits .xor .i64 (out : Int) (a : Int) = ((out ^^^ a : Nat) : Int) := bits_xor64 (by omega) (by omega)
      have hx5 : Go.bits .xor .i64 ((2 * a : Nat) : Int) 285 = ((2 * a ^^^ 285 : Nat) : Int) := bits_xor64 (b := 285) (by omega) (by omega)
      rw [← hx 0 (by omega)]
      have hlt : out ^^^ (if b % 2 = 1 then a else 0) < 256 := Gf.xor_lt (n := 8) ho (by split <;> omega)
      refine Ev.step (f := fun k => spec_MulG.l0 k ((Gf.xt a : Nat) : Int) ((b / 2 : Nat) : Int) ((out ^^^ (if b % 2 = 1 then a else 0) : Nat) : Int)) (fun k => ?_) (ih _ _ _ (Gf.xt_lt ha) (by omega) (by omega) hlt)
      simp only [spec_MulG.l0, hm, hd, h2, hxa, hx5]
      rw [if_pos (by omega)]
      unfold Gf.xt
      by_cases c1 : b % 2 = 1 <;> by_cases c2 : 255 < 2 * a
      · rw [if_pos (by omega), if_pos (by omega), if_pos c1, if_pos c2]
      · rw [if_pos (by omega), if_neg (by omega), if_pos c1, if_neg c2]
      · rw [if_neg (by omega), if_pos (by omega), if_neg c1, if_pos c2, Nat.xor_zero]
      · rw [if_neg (by omega), if_neg (by omega), if_neg c1, if_neg c2, Nat.xor_zero]
theorem spec_MulG_ev {a b : Int} (a0 : -9223372036854775808 ≤ a) (a1 : a ≤ 9223372036854775807) (b0 : -9223372036854775808 ≤ b) (b1 : b ≤ 9223372036854775807) : Ev (fun k => spec_MulG.f k a b) (gmul a b) := by
  have h := spec_MulG_l0 8 (modb a) (modb b) 0 (modb_lt a) (modb_lt b) (Nat.le_refl _) (by omega)
  rw [Nat.zero_xor] at h
  refine Ev.congr (fun k => ?_) h
  unfold spec_MulG.f
  rw [spec_l05Mod_eq a0 a1, spec_l05Mod_eq b0 b1]
  rfl

theorem impl_MulG_l0 (n : Nat) : ∀ (a b out : Nat), a < 256 → b < 2 ^ n → n ≤ 8 → out < 256 → Ev (fun k => impl_MulG.l0 k (a : Int) (b : Int) (out : Int)) ((out ^^^ Gf.gm n a b : Nat) : Int) := by
  induction n with
  | zero =>
    intro a b out ha hb hn ho
    have hb0 : b = 0 := by omega
    subst hb0
    exact Ev.step (f := fun _ => some (out : Int)) (fun k => by simp only [impl_MulG.l0]; rw [if_neg (by omega)]) (by simpa [Gf.gm] using Ev.now _)
  | succ n ih =>
    intro a b out ha hb hn ho
    by_cases hb0 : b = 0
    · subst hb0
      have hz : Gf.gm (n + 1) a 0 = 0 := by
        have : ∀ n a, Gf.gm n a 0 = 0 := by
          intro n
          induction n with
          | zero => intro a; rfl
          | succ n ih => intro a; simp [Gf.gm, ih]
        exact this _ _
      rw [hz, Nat.xor_zero]
      exact Ev.step (f := fun _ => some (out : Int)) (fun k => by simp only [impl_MulG.l0]; rw [if_neg (by omega)]) (Ev.now _)
    · have h8 : 2 ^ n ≤ 2 ^ 8 := Nat.pow_le_pow_right (by omega) (by omega)
      have h9 : 2 ^ (n + 1) = 2 * 2 ^ n := by rw [Nat.pow_succ]; omega
      have h10 : 2 ^ (n + 1) ≤ 2 ^ 8 := Nat.pow_le_pow_right (by omega) hn
      have hm : Go.bits .and .i64 (b : Int) 1 = ((b % 2 : Nat) : Int) := bits_and1 (by omega)
      have hd : (b : Int) / 2 = ((b / 2 : Nat) : Int) := rfl
      have h2 : wrap64 ((a : Int) * 2) = ((2 * a : Nat) : Int) := by rw [w64 (by omega) (by omega)]; omega
      have hx : (out ^^^ (if b % 2 = 1 then a else 0) ^^^ Gf.gm n (Gf.xt a) (b / 2)) = (out ^^^ Gf.gm (n + 1) a b) := by
        rw [Gf.gm, Nat.xor_assoc]
      have hxa : Go.bits .xor .i64 (out : Int) (a : Int) = ((out ^^^ a : Nat) : Int) := bits_xor64 (by omega) (by omega)
      have hx5 : Go.bits .xor .i64 ((2 * a : Nat) : Int) 285 = ((2 * a ^^^ 285 : Nat) : Int) := bits_xor64 (b := 285) (by omega) (by omega)
      rw [← hx]
      have hlt : out ^^^ (if b % 2 = 1 then a else 0) < 256 := Gf.xor_lt (n := 8) ho (by split <;> omega)
      refine Ev.step (f := fun k => impl_MulG.l0 k ((Gf.xt a : Nat) : Int) ((b / 2 : Nat) : Int) ((out ^^^ (if b % 2 = 1 then a else 0) : Nat) : Int)) (fun k => ?_) (ih _ _ _ (Gf.xt_lt ha) (by omega) (by omega) hlt)
      simp only [impl_MulG.l0, hm, hd, h2, hxa, hx5]
      rw [if_pos (by omega)]
      unfold Gf.xt
      by_cases c1 : b % 2 = 1 <;> by_cases c2 : 255 < 2 * a
      · rw [if_pos (by omega), if_pos (by omega), if_pos c1, if_pos c2]
      · rw [if_pos (by omega), if_neg (by omega), if_pos c1, if_neg c2]
      · rw [if_neg (by omega), if_pos (by omega), if_neg c1, if_pos c2, Nat.xor_zero]
      · rw [if_neg (by omega), if_neg (by omega), if_neg c1, if_neg c2, Nat.xor_zero]
theorem impl_MulG_ev {a b : Int} (a0 : -9223372036854775808 ≤ a) (a1 : a ≤ 9223372036854775807) (b0 : -9223372036854775808 ≤ b) (b1 : b ≤ 9223372036854775807) : Ev (fun k => impl_MulG.f k a b) (gmul a b) := by
  have h := impl_MulG_l0 8 (modb a) (modb b) 0 (modb_lt a) (modb_lt b) (Nat.le_refl _) (by omega)
  rw [Nat.zero_xor] at h
  refine Ev.congr (fun k => ?_) h
  unfold impl_MulG.f
  rw [bits_and255 a0 a1, bits_and255 b0 b1]
  rfl

/-! ### matrices of bytes -/
def xs : Nat → (Nat → Nat) → Nat
  | 0, _ => 0
  | n + 1, h => xs n h ^^^ h n
theorem xs_lt {h : Nat → Nat} : ∀ {n : Nat}, (∀ k, k < n → h k < 256) → xs n h < 256
  | 0, _ => by simp [xs]
  | n + 1, H => Gf.xor_lt (n := 8) (xs_lt (fun k hk => H k (by omega))) (H n (by omega))
theorem xs_congr {f g : Nat → Nat} : ∀ {n : Nat}, (∀ k, k < n → f k = g k) → xs n f = xs n g
  | 0, _ => rfl
  | n + 1, H => by rw [xs, xs, xs_congr (fun k hk => H k (by omega)), H n (by omega)]
theorem xs_zero : ∀ n : Nat, xs n (fun _ => 0) = 0
  | 0 => rfl
  | n + 1 => by rw [xs, xs_zero n, Nat.xor_self]
theorem xs_xor (f g : Nat → Nat) : ∀ n : Nat, xs n (fun k => f k ^^^ g k) = xs n f ^^^ xs n g
  | 0 => by simp [xs]
  | n + 1 => by
    rw [xs, xs, xs, xs_xor f g n]
    ac_rfl
theorem mul_xs (a : Nat) (h : Nat → Nat) : ∀ n : Nat, Gf.mul a (xs n h) = xs n (fun k => Gf.mul a (h k))
  | 0 => Gf.mul_zero_right a
  | n + 1 => by rw [xs, xs, Gf.mul_xor_right, mul_xs a h n]
theorem xs_mul (b : Nat) {h : Nat → Nat} : ∀ {n : Nat}, (∀ k, k < n → h k < 256) → Gf.mul (xs n h) b = xs n (fun k => Gf.mul (h k) b)
  | 0, _ => Gf.mul_zero_left b
  | n + 1, H => by rw [xs, xs, Gf.mul_xor_left b (xs_lt (fun k hk => H k (by omega))) (H n (by omega)), xs_mul b (fun k hk => H k (by omega))]
theorem xs_swap (m : Nat) (h : Nat → Nat → Nat) : ∀ n : Nat, xs n (fun k => xs m (fun l => h k l)) = xs m (fun l => xs n (fun k => h k l))
  | 0 => (xs_zero m).symm
  | n + 1 => by
    rw [xs, xs_swap m h n]
    exact (xs_xor _ _ m).symm
theorem xs_off {j : Nat} (f : Nat → Nat) : ∀ {n : Nat}, n ≤ j → xs n (fun k => if k = j then f k else 0) = 0
  | 0, _ => rfl
  | n + 1, h => by rw [xs, xs_off f (by omega), if_neg (by omega), Nat.xor_self]
theorem xs_one {j : Nat} (f : Nat → Nat) : ∀ {n : Nat}, j < n → xs n (fun k => if k = j then f k else 0) = f j
  | n + 1, h => by
    rw [xs]
    by_cases e : n = j
    · subst e
      rw [if_pos rfl, xs_off f (Nat.le_refl _), Nat.zero_xor]
    · rw [if_neg e, xs_one f (by omega), Nat.xor_zero]
def mk (r c : Nat) (f : Nat → Nat → Nat) : List (List Int) := (List.range r).map fun i => (List.range c).map fun j => ((f i j : Nat) : Int)
def ent (m : List (List Int)) (i j : Nat) : Nat := ((m.getD i []).getD j 0).toNat
theorem mk_length (r c : Nat) (f : Nat → Nat → Nat) : (mk r c f).length = r := by simp [mk]
theorem mk_get (r c : Nat) (f : Nat → Nat → Nat) {i : Nat} (hi : i < r) : (mk r c f).getD i [] = (List.range c).map fun j => ((f i j : Nat) : Int) := by
  unfold mk
  rw [List.getD_eq_getElem?_getD, List.getElem?_map, List.getElem?_range hi]
  rfl
theorem headD_getD (m : List (List Int)) : m.headD [] = m.getD 0 [] := by cases m <;> rfl
theorem mk_head (r c : Nat) (f : Nat → Nat → Nat) (hr : 0 < r) : ((mk r c f).headD []).length = c := by rw [headD_getD, mk_get r c f hr]; simp
theorem ent_mk (r c : Nat) (f : Nat → Nat → Nat) {i j : Nat} (hi : i < r) (hj : j < c) : ent (mk r c f) i j = f i j := by
  unfold ent
  rw [mk_get r c f hi, List.getD_eq_getElem?_getD, List.getElem?_map, List.getElem?_range hj]
  rfl
theorem mk_congr {r c : Nat} {f g : Nat → Nat → Nat} (H : ∀ i, i < r → ∀ j, j < c → f i j = g i j) : mk r c f = mk r c g := by
  unfold mk
  refine List.map_congr_left (fun i hi => List.map_congr_left (fun j hj => ?_))
  rw [H i (List.mem_range.mp hi) j (List.mem_range.mp hj)]
theorem okM_mk {r c : Nat} {f : Nat → Nat → Nat} (h1 : 1 ≤ r) (h2 : r ≤ 8) (h3 : 1 ≤ c) (h4 : c ≤ 8) (H : ∀ i, i < r → ∀ j, j < c → f i j < 256) : okM (mk r c f) = true := by
  unfold okM
  rw [mk_length, mk_head r c f (by omega)]
  have e1 : in18 r = true := decide_eq_true ⟨h1, h2⟩
  have e2 : in18 c = true := decide_eq_true ⟨h3, h4⟩
  rw [e1, e2, Bool.true_and, Bool.true_and, List.all_eq_true]
  intro x hx
  unfold mk at hx
  obtain ⟨i, hi, rfl⟩ := List.mem_map.mp hx
  unfold okR
  rw [Bool.and_eq_true]
  refine ⟨by simp, ?_⟩
  rw [List.all_eq_true]
  intro y hy
  obtain ⟨j, hj, rfl⟩ := List.mem_map.mp hy
  have := H i (List.mem_range.mp hi) j (List.mem_range.mp hj)
  unfold inB
  exact decide_eq_true (by omega)
theorem of_okM {m : List (List Int)} (h : okM m = true) : 1 ≤ m.length ∧ m.length ≤ 8 ∧ 1 ≤ (m.headD []).length ∧ (m.headD []).length ≤ 8 ∧ (∀ i, i < m.length → (m.getD i []).length = (m.headD []).length ∧ ∀ x ∈ m.getD i [], 0 ≤ x ∧ x ≤ 255) := by
  unfold okM at h
  rw [Bool.and_eq_true, Bool.and_eq_true] at h
  obtain ⟨⟨h1, h2⟩, h3⟩ := h
  have h1 := of_decide_eq_true h1
  have h2 := of_decide_eq_true h2
  refine ⟨h1.1, h1.2, h2.1, h2.2, fun i hi => ?_⟩
  rw [List.all_eq_true] at h3
  have e : m.getD i [] = m[i] := by rw [List.getD_eq_getElem?_getD, List.getElem?_eq_getElem hi]; rfl
  have h4 := h3 _ (List.getElem_mem hi)
  unfold okR at h4
  rw [Bool.and_eq_true] at h4
  rw [e]
  refine ⟨of_decide_eq_true h4.1, fun x hx => ?_⟩
  exact of_decide_eq_true (List.all_eq_true.mp h4.2 x hx)
theorem rd_ent {m : List (List Int)} (h : okM m = true) {i j : Nat} (hi : i < m.length) (hj : j < (m.headD []).length) : rd (rd_L1 m (i : Int)) (j : Int) = ((ent m i j : Nat) : Int) ∧ ent m i j < 256 := by
  obtain ⟨_, _, _, _, H⟩ := of_okM h
  obtain ⟨h1, h2⟩ := H i hi
  unfold rd rd_L1 ent
  rw [Int.toNat_natCast, Int.toNat_natCast]
  have hj' : j < (m.getD i []).length := by omega
  have e : (m.getD i []).getD j 0 = (m.getD i [])[j] := by rw [List.getD_eq_getElem?_getD, List.getElem?_eq_getElem hj']; rfl
  have := h2 _ (List.getElem_mem hj')
  rw [e]
  omega
theorem rdL_len {m : List (List Int)} (h : okM m = true) {i : Nat} (hi : i < m.length) : (rd_L1 m (i : Int)).length = (m.headD []).length := by
  obtain ⟨_, _, _, _, H⟩ := of_okM h
  unfold rd_L1
  rw [Int.toNat_natCast]
  exact (H i hi).1
theorem eq_mk {m : List (List Int)} (h : okM m = true) : m = mk m.length (m.headD []).length (ent m) := by
  obtain ⟨_, _, _, _, H⟩ := of_okM h
  refine List.ext_getElem (by rw [mk_length]) (fun i h1 h2 => ?_)
  have e : m[i] = m.getD i [] := by rw [List.getD_eq_getElem?_getD, List.getElem?_eq_getElem h1]; rfl
  have e2 : (mk m.length (m.headD []).length (ent m))[i] = (mk m.length (m.headD []).length (ent m)).getD i [] := by rw [List.getD_eq_getElem?_getD, List.getElem?_eq_getElem h2]; rfl
  rw [e, e2, mk_get _ _ _ h1]
  obtain ⟨h3, h4⟩ := H i h1
  refine List.ext_getElem (by simpa using h3) (fun j h5 h6 => ?_)
  have := h4 _ (List.getElem_mem h5)
  have h8 : (m.getD i []).getD j 0 = (m.getD i [])[j] := by rw [List.getD_eq_getElem?_getD (l := m.getD i []), List.getElem?_eq_getElem h5]; rfl
  have h7 : ent m i j = ((m.getD i [])[j]).toNat := by unfold ent; rw [h8]
  rw [List.getElem_map, List.getElem_range, h7]
  omega
theorem gmul_nn {a b : Nat} (ha : a < 256) (hb : b < 256) : gmul (a : Int) (b : Int) = ((Gf.mul a b : Nat) : Int) := by
  unfold gmul
  rw [modb_nat ha, modb_nat hb]
def mulM (a b : List (List Int)) : List (List Int) := mk a.length (b.headD []).length (fun i j => xs b.length (fun k => Gf.mul (ent a i k) (ent b k j)))
def mulR (a b : List (List Int)) : List (List Int) := if okM a = true ∧ okM b = true ∧ (a.headD []).length = b.length then mulM a b else []
theorem range_map_succ {α : Type} (F : Nat → α) (n : Nat) : (List.range (n + 1)).map F = (List.range n).map F ++ [F n] := by rw [List.range_succ, List.map_append]; rfl
theorem mulR_mk {r n c : Nat} {f g : Nat → Nat → Nat} (hr : 1 ≤ r ∧ r ≤ 8) (hn : 1 ≤ n ∧ n ≤ 8) (hc : 1 ≤ c ∧ c ≤ 8) (hf : ∀ i, i < r → ∀ j, j < n → f i j < 256) (hg : ∀ i, i < n → ∀ j, j < c → g i j < 256) :
    mulR (mk r n f) (mk n c g) = mk r c (fun i j => xs n (fun k => Gf.mul (f i k) (g k j))) := by
  unfold mulR
  rw [if_pos ⟨okM_mk hr.1 hr.2 hn.1 hn.2 hf, okM_mk hn.1 hn.2 hc.1 hc.2 hg, by rw [mk_head r n f (by omega), mk_length]⟩]
  unfold mulM
  rw [mk_length, mk_length, mk_head n c g (by omega)]
  refine mk_congr (fun i hi j hj => xs_congr (fun k hk => ?_))
  rw [ent_mk r n f hi hk, ent_mk n c g hk hj]
theorem mul_lt_of {n : Nat} {f g : Nat → Nat} (hf : ∀ k, k < n → f k < 256) : xs n (fun k => Gf.mul (f k) (g k)) < 256 := xs_lt (fun k hk => Gf.mul_lt _ (hf k hk))
/-- Products do not care how they are taken together. -/
theorem assoc_mk {r n m c : Nat} {f g h : Nat → Nat → Nat} (hr : 1 ≤ r ∧ r ≤ 8) (hn : 1 ≤ n ∧ n ≤ 8) (hm : 1 ≤ m ∧ m ≤ 8) (hc : 1 ≤ c ∧ c ≤ 8)
    (hf : ∀ i, i < r → ∀ j, j < n → f i j < 256) (hg : ∀ i, i < n → ∀ j, j < m → g i j < 256) (hh : ∀ i, i < m → ∀ j, j < c → h i j < 256) :
    mulR (mulR (mk r n f) (mk n m g)) (mk m c h) = mulR (mk r n f) (mulR (mk n m g) (mk m c h)) := by
  rw [mulR_mk hr hn hm hf hg, mulR_mk hr hm hc (fun i hi j hj => mul_lt_of (hf i hi)) hh, mulR_mk hn hm hc hg hh, mulR_mk hr hn hc hf (fun i hi j hj => mul_lt_of (hg i hi))]
  refine mk_congr (fun i hi j hj => ?_)
  have e1 : xs m (fun k => Gf.mul (xs n (fun l => Gf.mul (f i l) (g l k))) (h k j)) = xs m (fun k => xs n (fun l => Gf.mul (f i l) (Gf.mul (g l k) (h k j)))) :=
    xs_congr (fun k hk => by
      rw [xs_mul _ (fun l hl => Gf.mul_lt _ (hf i hi l hl))]
      exact xs_congr (fun l hl => Gf.mul_assoc (hf i hi l hl) (hg l hl k hk) (hh k hk j hj)))
  rw [e1, xs_swap]
  exact xs_congr (fun l hl => (mul_xs _ _ _).symm)
def idf (i j : Nat) : Nat := if i = j then 1 else 0
theorem idf_lt (i j : Nat) : idf i j < 256 := by unfold idf; split <;> omega
theorem mul_one_mk {r n : Nat} {f : Nat → Nat → Nat} (hr : 1 ≤ r ∧ r ≤ 8) (hn : 1 ≤ n ∧ n ≤ 8) (hf : ∀ i, i < r → ∀ j, j < n → f i j < 256) : mulR (mk r n f) (mk n n idf) = mk r n f := by
  rw [mulR_mk hr hn hn hf (fun i _ j _ => idf_lt i j)]
  refine mk_congr (fun i hi j hj => ?_)
  have e : xs n (fun k => Gf.mul (f i k) (idf k j)) = xs n (fun k => if k = j then f i k else 0) := xs_congr (fun k hk => by
    unfold idf
    by_cases h : k = j
    · rw [if_pos h, if_pos h, Gf.mul_one_right]
    · rw [if_neg h, if_neg h, Gf.mul_zero_right])
  rw [e, xs_one _ hj]
theorem one_mul_mk {n c : Nat} {f : Nat → Nat → Nat} (hn : 1 ≤ n ∧ n ≤ 8) (hc : 1 ≤ c ∧ c ≤ 8) (hf : ∀ i, i < n → ∀ j, j < c → f i j < 256) : mulR (mk n n idf) (mk n c f) = mk n c f := by
  rw [mulR_mk hn hn hc (fun i _ j _ => idf_lt i j) hf]
  refine mk_congr (fun i hi j hj => ?_)
  have e : xs n (fun k => Gf.mul (idf i k) (f k j)) = xs n (fun k => if k = i then f k j else 0) := xs_congr (fun k hk => by
    unfold idf
    by_cases h : k = i
    · subst h
      rw [if_pos rfl, if_pos rfl, Gf.mul_one_left (hf k hk j hj)]
    · rw [if_neg h, if_neg (fun e => h e.symm), Gf.mul_zero_left])
  rw [e, xs_one (fun k => f k j) hi]

/-! ### lists of bytes as numbers -/
def ints (l : List UInt8) : List Int := l.map fun b => (b.toNat : Int)
theorem ints_length (l : List UInt8) : (ints l).length = l.length := by simp [ints]
theorem ints_app (l m : List UInt8) : ints (l ++ m) = ints l ++ ints m := by simp [ints]
theorem bytesOf_ints (s : ByteArray) : bytesOf s = ints s.data.toList := rfl
theorem str_ints (l : List UInt8) : strOfNums (ints l) = ⟨l.toArray⟩ := by
  unfold strOfNums ints
  congr 1
  rw [List.map_map]
  congr 1
  conv => rhs; rw [← List.map_id l]
  refine List.map_congr_left (fun b _ => ?_)
  simp
theorem set_mid {α : Type} (A : List α) (x v : α) (B : List α) : (A ++ x :: B).set A.length v = A ++ v :: B := by simp
theorem rd_mid (A : List Int) (x : Int) (B : List Int) : rd (A ++ x :: B) (A.length : Int) = x := by simp [rd]
theorem bt_mid (s : ByteArray) {A : List UInt8} {x : UInt8} {B : List UInt8} (h : s.data.toList = A ++ x :: B) : bt s (A.length : Int) = (x.toNat : Int) := by
  have hl : A.length < s.size := by
    have h1 : s.data.toList.length = s.size := rfl
    rw [h] at h1
    simp at h1
    omega
  unfold bt
  rw [dif_pos (by simpa using hl)]
  have e : s.data.toList[A.length]'(by simpa using hl) = x := by simp [h]
  show (((s.data[A.length]'hl).toNat : Nat) : Int) = _
  rw [← e]
  simp
theorem size_of_list (s : ByteArray) {l : List UInt8} (h : s.data.toList = l) : s.size = l.length := by
  have h1 : s.data.toList.length = s.size := rfl
  rw [h] at h1
  omega

/-! ### a text so many times -/
def mulB (a : Nat) (b : UInt8) : UInt8 := UInt8.ofNat (Gf.mul a b.toNat)
def mulL (a : Nat) (l : List UInt8) : List UInt8 := l.map (mulB a)
def mulT (a : Nat) (s : ByteArray) : ByteArray := ⟨(mulL a s.data.toList).toArray⟩
theorem mulB_nat {a : Nat} (ha : a < 256) (b : UInt8) : (mulB a b).toNat = Gf.mul a b.toNat := by
  have := Gf.mul_lt b.toNat ha
  simp only [mulB, UInt8.toNat_ofNat']
  omega
theorem gmul_byte (a : Int) (b : UInt8) : gmul a (b.toNat : Int) = ((mulB (modb a) b).toNat : Int) := by
  have := b.toNat_lt
  rw [mulB_nat (modb_lt a)]
  unfold gmul
  rw [modb_nat (by omega)]

theorem spec_MulText_l0 {a : Int} (a0 : -9223372036854775808 ≤ a) (a1 : a ≤ 9223372036854775807) : ∀ (rest done : List UInt8), done.length + rest.length ≤ 1073741824 →
    Ev (fun k => spec_MulText.l0 k a (ints (done ++ rest)) (done.length : Int)) (strOfNums (ints (done ++ mulL (modb a) rest))) := by
  intro rest
  induction rest with
  | nil =>
    intro done _
    refine Ev.step (f := fun _ => some (strOfNums (ints (done ++ mulL (modb a) [])))) (fun k => ?_) (Ev.now _)
    simp only [spec_MulText.l0]
    rw [if_neg (by rw [ints_length]; simp)]
    rfl
  | cons b rest ih =>
    intro done hl
    have hb := b.toNat_lt
    simp only [List.length_cons] at hl
    refine Ev.step (f := fun k => (spec_MulG.f k a (b.toNat : Int)).bind fun t => spec_MulText.l0 k a ((ints (done ++ b :: rest)).set done.length (t % 256)) ((done.length + 1 : Nat) : Int)) (fun k => ?_) (Ev.bind (spec_MulG_ev a0 a1 (by omega) (by omega)) ?_)
    · simp only [spec_MulText.l0]
      rw [if_pos (by rw [ints_length, List.length_append, List.length_cons]; omega), if_pos (by omega), wsucc (by omega)]
      have e : rd (ints (done ++ b :: rest)) (done.length : Int) = (b.toNat : Int) := by
        have := rd_mid (ints done) (b.toNat : Int) (ints rest)
        rw [ints_length] at this
        rw [ints_app]
        exact this
      rw [e, wnat (by omega)]
      rfl
    · have e : (ints (done ++ b :: rest)).set done.length (gmul a (b.toNat : Int) % 256) = ints ((done ++ [mulB (modb a) b]) ++ rest) := by
        have h1 := set_mid (ints done) (b.toNat : Int) (gmul a (b.toNat : Int) % 256) (ints rest)
        rw [ints_length] at h1
        have h2 := gmul_range a (b.toNat : Int)
        rw [ints_app]
        refine Eq.trans h1 ?_
        rw [show gmul a (b.toNat : Int) % 256 = ((mulB (modb a) b).toNat : Int) by rw [← gmul_byte]; omega]
        simp [ints]
      rw [e]
      have h := ih (done ++ [mulB (modb a) b]) (by simp; omega)
      rw [List.length_append] at h
      rw [show done ++ mulL (modb a) (b :: rest) = done ++ [mulB (modb a) b] ++ mulL (modb a) rest by simp [mulL]]
      exact h
theorem spec_MulText_ev {a : Int} (a0 : -9223372036854775808 ≤ a) (a1 : a ≤ 9223372036854775807) (s : ByteArray) (hs : s.size ≤ 1073741824) : Ev (fun k => spec_MulText.f k a s) (mulT (modb a) s) := by
  unfold spec_MulText.f
  refine Ev.pos (by omega) ?_
  have h := spec_MulText_l0 a0 a1 s.data.toList [] (by rw [str_len]; simpa using hs)
  rw [str_ints] at h
  exact h

theorem impl_MulText_l0 {a : Int} (a0 : -9223372036854775808 ≤ a) (a1 : a ≤ 9223372036854775807) (s : ByteArray) (hs : s.size ≤ 1073741824) : ∀ (rest pre done : List UInt8), s.data.toList = pre ++ rest → pre.length = done.length →
    Ev (fun k => impl_MulText.l0 k a s (ints done ++ List.replicate rest.length 0) (s.size : Int) (done.length : Int)) (strOfNums (ints (done ++ mulL (modb a) rest))) := by
  intro rest
  induction rest with
  | nil =>
    intro pre done he hp
    have hsz := size_of_list s he
    simp only [List.append_nil] at hsz
    refine Ev.step (f := fun _ => some (strOfNums (ints (done ++ mulL (modb a) [])))) (fun k => ?_) (Ev.now _)
    simp only [impl_MulText.l0]
    rw [if_neg (by omega)]
    simp [mulL]
  | cons b rest ih =>
    intro pre done he hp
    have hb := b.toNat_lt
    have hsz := size_of_list s he
    simp only [List.length_append, List.length_cons] at hsz
    refine Ev.step (f := fun k => (impl_MulG.f k a (b.toNat : Int)).bind fun t => impl_MulText.l0 k a s ((ints done ++ 0 :: List.replicate rest.length 0).set done.length (t % 256)) (s.size : Int) ((done.length + 1 : Nat) : Int)) (fun k => ?_) (Ev.bind (impl_MulG_ev a0 a1 (by omega) (by omega)) ?_)
    · simp only [impl_MulText.l0]
      have e := bt_mid s he
      rw [hp] at e
      rw [if_pos (by omega), if_pos (by omega), if_pos (by omega), wsucc (by omega), e, wnat (by omega)]
      congr 1
      funext t
      rw [if_pos (by rw [List.length_append, ints_length, List.length_replicate, List.length_cons]; omega)]
      rfl
    · have e : (ints done ++ 0 :: List.replicate rest.length 0).set done.length (gmul a (b.toNat : Int) % 256) = ints (done ++ [mulB (modb a) b]) ++ List.replicate rest.length 0 := by
        have h1 := set_mid (ints done) 0 (gmul a (b.toNat : Int) % 256) (List.replicate rest.length 0)
        rw [ints_length] at h1
        have h2 := gmul_range a (b.toNat : Int)
        rw [h1, show gmul a (b.toNat : Int) % 256 = ((mulB (modb a) b).toNat : Int) by rw [← gmul_byte]; omega]
        simp [ints]
      rw [e]
      have h := ih (pre ++ [b]) (done ++ [mulB (modb a) b]) (by rw [he]; simp) (by simp; omega)
      rw [List.length_append] at h
      rw [show done ++ mulL (modb a) (b :: rest) = done ++ [mulB (modb a) b] ++ mulL (modb a) rest by simp [mulL]]
      exact h
theorem impl_MulText_ev {a : Int} (a0 : -9223372036854775808 ≤ a) (a1 : a ≤ 9223372036854775807) (s : ByteArray) (hs : s.size ≤ 1073741824) : Ev (fun k => impl_MulText.f k a s) (mulT (modb a) s) := by
  unfold impl_MulText.f
  refine Ev.pos (by omega) (Ev.pos (by omega) (Ev.some_bind rfl ?_))
  have h := impl_MulText_l0 a0 a1 s hs s.data.toList [] [] rfl rfl
  rw [str_len, str_ints] at h
  simp only [ints, List.map_nil, List.nil_append, List.length_nil] at h
  simp only [Int.toNat_natCast, List.length_replicate]
  exact h

theorem bits_xor8 (a b : UInt8) : Go.bits .xor .u8 (a.toNat : Int) (b.toNat : Int) = ((a ^^^ b).toNat : Int) := by
  have ha := a.toNat_lt
  have hb := b.toNat_lt
  have hx : a.toNat ^^^ b.toNat < 2 ^ 8 := Nat.xor_lt_two_pow (by omega) (by omega)
  have e : (BitVec.ofNat 8 a.toNat ^^^ BitVec.ofNat 8 b.toNat).toNat = a.toNat ^^^ b.toNat := by rw [BitVec.toNat_xor, BitVec.toNat_ofNat, BitVec.toNat_ofNat, Nat.mod_eq_of_lt (by omega), Nat.mod_eq_of_lt (by omega)]
  show IntKind.u8.wrap (((BitVec.ofInt 8 (a.toNat : Int)) ^^^ (BitVec.ofInt 8 (b.toNat : Int))).toNat : Int) = _
  rw [BitVec.ofInt_natCast, BitVec.ofInt_natCast, e, IntKind.wrap_u8, UInt8.toNat_xor]
  omega

/-! ### sums of texts -/
def addL : List UInt8 → List UInt8 → List UInt8
  | [], ys => ys
  | xs, [] => xs
  | x :: xs, y :: ys => (x ^^^ y) :: addL xs ys
def addT (a b : ByteArray) : ByteArray := ⟨(addL a.data.toList b.data.toList).toArray⟩
theorem addL_nil (xs : List UInt8) : addL xs [] = xs := by cases xs <;> rfl
theorem nil_addL (xs : List UInt8) : addL [] xs = xs := rfl
theorem addL_comm : ∀ xs ys : List UInt8, addL xs ys = addL ys xs
  | [], ys => by rw [addL_nil]; rfl
  | x :: xs, [] => rfl
  | x :: xs, y :: ys => by simp only [addL]; rw [addL_comm xs ys, UInt8.xor_comm]
theorem addL_length : ∀ xs ys : List UInt8, (addL xs ys).length = max xs.length ys.length
  | [], ys => by simp [addL]
  | x :: xs, [] => by simp [addL]
  | x :: xs, y :: ys => by simp only [addL, List.length_cons, addL_length xs ys]; omega
theorem addL_zeros : ∀ (xs ys : List UInt8) (n : Nat), xs.length + n = max xs.length ys.length → addL (xs ++ List.replicate n 0) ys = addL xs ys
  | [], [], 0, _ => rfl
  | [], [], n + 1, h => by simp at h
  | [], y :: ys, 0, h => by simp at h
  | [], y :: ys, n + 1, h => by
    have ih := addL_zeros [] ys n (by simp at h ⊢; exact h)
    simp only [List.nil_append, List.replicate_succ, addL] at ih ⊢
    rw [ih, UInt8.zero_xor]
  | x :: xs, [], n, h => by
    have : n = 0 := by simp at h; exact h
    subst this
    simp
  | x :: xs, y :: ys, n, h => by
    simp only [List.cons_append, addL]
    rw [addL_zeros xs ys n (by simp only [List.length_cons] at h; omega)]

theorem spec_AddText_l0 (s : ByteArray) (hs : s.size ≤ 1073741824) : ∀ (rb rest pre done : List UInt8), s.data.toList = pre ++ rb → pre.length = done.length → rb.length ≤ rest.length →
    Ev (fun k => spec_AddText.l0 k s (ints (done ++ rest)) (done.length : Int)) (strOfNums (ints (done ++ addL rest rb))) := by
  intro rb
  induction rb with
  | nil =>
    intro rest pre done he hp hr
    have hsz := size_of_list s he
    simp only [List.append_nil] at hsz
    refine Ev.step (f := fun _ => some (strOfNums (ints (done ++ addL rest [])))) (fun k => ?_) (Ev.now _)
    simp only [spec_AddText.l0]
    rw [if_neg (by omega), addL_nil]
  | cons b rb ih =>
    intro rest pre done he hp hr
    have hsz := size_of_list s he
    simp only [List.length_append, List.length_cons] at hsz
    cases rest with
    | nil => simp at hr
    | cons r rest =>
      simp only [List.length_cons] at hr
      have h := ih rest (pre ++ [b]) (done ++ [r ^^^ b]) (by rw [he]; simp) (by simp; omega) (by omega)
      rw [List.length_append] at h
      refine Ev.step (fun k => ?_) (by rw [show done ++ addL (r :: rest) (b :: rb) = done ++ [r ^^^ b] ++ addL rest rb by simp [addL]]; exact h)
      simp only [spec_AddText.l0]
      have e := bt_mid s he
      rw [hp] at e
      have e2 : rd (ints (done ++ r :: rest)) (done.length : Int) = (r.toNat : Int) := by
        have := rd_mid (ints done) (r.toNat : Int) (ints rest)
        rw [ints_length] at this
        rw [ints_app]
        exact this
      rw [if_pos (by omega), if_pos (by omega), if_pos (by rw [ints_length, List.length_append, List.length_cons]; omega), wsucc (by omega), e, e2, bits_xor8]
      have h1 := set_mid (ints done) (r.toNat : Int) ((r ^^^ b).toNat : Int) (ints rest)
      rw [ints_length] at h1
      have e3 : (ints (done ++ r :: rest)).set done.length ((r ^^^ b).toNat : Int) = ints (done ++ [r ^^^ b] ++ rest) := by
        rw [ints_app]
        refine Eq.trans h1 ?_
        simp [ints]
      rw [show ((done.length : Int)).toNat = done.length from Int.toNat_natCast _, e3]
      rfl
theorem spec_AddText_j0 (a b : ByteArray) (ha : a.size ≤ 1073741824) (hb : b.size ≤ a.size) : Ev (fun k => spec_AddText.j0 k a b) (addT a b) := by
  have h := spec_AddText_l0 b (by omega) b.data.toList a.data.toList [] [] rfl rfl hb
  rw [str_ints] at h
  refine Ev.step (fun k => ?_) h
  simp only [spec_AddText.j0]
  rw [if_pos (by omega)]
  rfl
theorem spec_AddText_ev (a b : ByteArray) (ha : a.size ≤ 1073741824) (hb : b.size ≤ 1073741824) : Ev (fun k => spec_AddText.f k a b) (addT a b) := by
  unfold spec_AddText.f
  by_cases h : (a.size : Int) < (b.size : Int)
  · refine Ev.pos h ?_
    rw [show addT a b = addT b a by unfold addT; rw [addL_comm]]
    exact spec_AddText_j0 b a hb (by omega)
  · exact Ev.neg h (spec_AddText_j0 a b ha (by omega))

theorem impl_AddText_l0 (s : ByteArray) (hs : s.size ≤ 1073741824) : ∀ (rb rest pre done : List UInt8), s.data.toList = pre ++ rb → pre.length = done.length → rb.length ≤ rest.length →
    Ev (fun k => impl_AddText.l0 k s (ints (done ++ rest)) (done.length : Int)) (strOfNums (ints (done ++ addL rest rb))) := by
  intro rb
  induction rb with
  | nil =>
    intro rest pre done he hp hr
    have hsz := size_of_list s he
    simp only [List.append_nil] at hsz
    refine Ev.step (f := fun _ => some (strOfNums (ints (done ++ addL rest [])))) (fun k => ?_) (Ev.now _)
    simp only [impl_AddText.l0]
    rw [if_neg (by omega), addL_nil]
  | cons b rb ih =>
    intro rest pre done he hp hr
    have hsz := size_of_list s he
    simp only [List.length_append, List.length_cons] at hsz
    cases rest with
    | nil => simp at hr
    | cons r rest =>
      simp only [List.length_cons] at hr
      have h := ih rest (pre ++ [b]) (done ++ [r ^^^ b]) (by rw [he]; simp) (by simp; omega) (by omega)
      rw [List.length_append] at h
      refine Ev.step (fun k => ?_) (by rw [show done ++ addL (r :: rest) (b :: rb) = done ++ [r ^^^ b] ++ addL rest rb by simp [addL]]; exact h)
      simp only [impl_AddText.l0]
      have e := bt_mid s he
      rw [hp] at e
      have e2 : rd (ints (done ++ r :: rest)) (done.length : Int) = (r.toNat : Int) := by
        have := rd_mid (ints done) (r.toNat : Int) (ints rest)
        rw [ints_length] at this
        rw [ints_app]
        exact this
      rw [if_pos (by omega), if_pos (by omega), if_pos (by rw [ints_length, List.length_append, List.length_cons]; omega), wsucc (by omega), e, e2, bits_xor8]
      have h1 := set_mid (ints done) (r.toNat : Int) ((r ^^^ b).toNat : Int) (ints rest)
      rw [ints_length] at h1
      have e3 : (ints (done ++ r :: rest)).set done.length ((r ^^^ b).toNat : Int) = ints (done ++ [r ^^^ b] ++ rest) := by
        rw [ints_app]
        refine Eq.trans h1 ?_
        simp [ints]
      rw [show ((done.length : Int)).toNat = done.length from Int.toNat_natCast _, e3]
      rfl
theorem impl_AddText_ev (a b : ByteArray) (ha : a.size ≤ 1073741824) (hb : b.size ≤ 1073741824) : Ev (fun k => impl_AddText.f k a b) (addT a b) := by
  have hm : mx (a.size : Int) (b.size : Int) = ((max a.size b.size : Nat) : Int) := by
    unfold mx
    split <;> omega
  unfold impl_AddText.f
  rw [hm]
  refine Ev.pos (by omega) (Ev.pos (by omega) (Ev.some_bind rfl (Ev.pos (by rw [List.length_replicate]; omega) ?_)))
  have hc : copyS (List.replicate (max a.size b.size) 0) a = ints (a.data.toList ++ List.replicate (max a.size b.size - a.size) 0) := by
    unfold copyS
    rw [bytesOf_ints, ints_app, List.drop_replicate]
    simp [ints]
  have h := impl_AddText_l0 b hb b.data.toList (a.data.toList ++ List.replicate (max a.size b.size - a.size) 0) [] [] rfl rfl (by rw [List.length_append, List.length_replicate, str_len, str_len]; omega)
  rw [addL_zeros _ _ _ (by rw [str_len, str_len]; omega), str_ints] at h
  rw [Int.toNat_natCast, hc]
  exact h

/-! ### laws of sums and products of texts -/
theorem addT_list (a b : ByteArray) : (addT a b).data.toList = addL a.data.toList b.data.toList := rfl
theorem mulT_list (x : Nat) (a : ByteArray) : (mulT x a).data.toList = mulL x a.data.toList := rfl
theorem addT_size (a b : ByteArray) : (addT a b).size = max a.size b.size := by
  have h : (addT a b).data.toList.length = (addT a b).size := rfl
  rw [← h, addT_list, addL_length]
  rfl
theorem mulT_size (x : Nat) (a : ByteArray) : (mulT x a).size = a.size := by
  have h : (mulT x a).data.toList.length = (mulT x a).size := rfl
  rw [← h, mulT_list, mulL, List.length_map]
  rfl
theorem addT_comm (a b : ByteArray) : addT a b = addT b a := by unfold addT; rw [addL_comm]
theorem xor_twice (x y : UInt8) : x ^^^ y ^^^ y = x := by rw [UInt8.xor_assoc, UInt8.xor_self, UInt8.xor_zero]
theorem addL_self : ∀ ys : List UInt8, addL ys ys = List.replicate ys.length 0
  | [] => rfl
  | y :: ys => by simp only [addL, addL_self ys, UInt8.xor_self, List.length_cons, List.replicate_succ]
theorem addL_twice : ∀ xs ys : List UInt8, ∃ n, addL (addL xs ys) ys = xs ++ List.replicate n 0
  | [], ys => ⟨ys.length, by rw [nil_addL, addL_self]; rfl⟩
  | x :: xs, [] => ⟨0, by simp [addL_nil]⟩
  | x :: xs, y :: ys => by
    obtain ⟨n, h⟩ := addL_twice xs ys
    exact ⟨n, by simp only [addL, xor_twice, h, List.cons_append]⟩
theorem addT_begins (a b : ByteArray) : a.size ≤ (addT (addT a b) b).size ∧ (addT (addT a b) b).extract 0 a.size = a := by
  obtain ⟨n, h⟩ := addL_twice a.data.toList b.data.toList
  constructor
  · rw [addT_size, addT_size]
    omega
  · refine str_ext ?_
    rw [str_cut, addT_list, addT_list, h, Nat.sub_zero, List.drop_zero]
    rw [List.take_append_of_le_length (by rw [str_len]; exact Nat.le_refl _), List.take_of_length_le (by rw [str_len]; exact Nat.le_refl _)]
theorem mulB_xor {a : Nat} (ha : a < 256) (x y : UInt8) : mulB a (x ^^^ y) = mulB a x ^^^ mulB a y := by
  refine UInt8.toNat_inj.1 ?_
  have hx := x.toNat_lt
  have hy := y.toNat_lt
  rw [UInt8.toNat_xor, mulB_nat ha, mulB_nat ha, mulB_nat ha, UInt8.toNat_xor]
  exact Gf.mul_xor_right a _ _
theorem mulL_add {a : Nat} (ha : a < 256) : ∀ xs ys : List UInt8, mulL a (addL xs ys) = addL (mulL a xs) (mulL a ys)
  | [], ys => rfl
  | x :: xs, [] => rfl
  | x :: xs, y :: ys => by
    have ih := mulL_add ha xs ys
    simp only [mulL, addL, List.map_cons] at ih ⊢
    rw [ih, mulB_xor ha]
theorem mulT_add {x : Nat} (hx : x < 256) (a b : ByteArray) : mulT x (addT a b) = addT (mulT x a) (mulT x b) := by
  refine str_ext ?_
  rw [mulT_list, addT_list, addT_list, mulT_list, mulT_list, mulL_add hx]
theorem mulT_one (a : ByteArray) : mulT 1 a = a := by
  refine str_ext ?_
  rw [mulT_list, mulL]
  conv => rhs; rw [← List.map_id a.data.toList]
  refine List.map_congr_left (fun b _ => ?_)
  refine UInt8.toNat_inj.1 ?_
  have hb := b.toNat_lt
  rw [mulB_nat (by omega)]
  exact Gf.mul_one_left hb

/-! ### lists of texts, compared -/
theorem rdB_nat {l : List ByteArray} {i : Nat} (h : i < l.length) : rdOf ByteArray.empty l (i : Int) = l[i] := by
  unfold rdOf
  rw [Int.toNat_natCast, List.getD_eq_getElem?_getD, List.getElem?_eq_getElem h]
  rfl
theorem eqS_ev (l : List ByteArray) (hl : l.length ≤ 4611686018427387904) : Ev (fun k => laws_eqStringS.f k l l) true := by
  have key : ∀ d (i : Nat), i ≤ l.length → l.length - i = d → Ev (fun k => laws_eqStringS.l0 k l l (i : Int)) true := by
    intro d
    induction d with
    | zero =>
      intro i hi hd
      exact Ev.step (f := fun _ => some true) (fun k => by simp only [laws_eqStringS.l0]; rw [if_neg (by omega)]) (Ev.now _)
    | succ d ih =>
      intro i hi hd
      refine Ev.step (fun k => ?_) (ih (i + 1) (by omega) (by omega))
      simp only [laws_eqStringS.l0]
      rw [if_pos (by omega), if_pos (by omega), if_pos (by omega), wsucc (by omega)]
      simp only [if_true]
  unfold laws_eqStringS.f
  simp only [if_true]
  exact key l.length 0 (by omega) (by omega)

/-! ### lists of texts: measured, copied -/
theorem rdB_mid (A : List ByteArray) (x : ByteArray) (B : List ByteArray) : rdOf ByteArray.empty (A ++ x :: B) (A.length : Int) = x := by simp [rdOf]
theorem szStrS_ex (l : List ByteArray) (hl : l.length ≤ 9223372036854775807) (hr : ∀ r ∈ l, r.size ≤ 9223372036854775807) (left : Int) (h0 : 0 ≤ left) (h1 : left ≤ 1099511627776) :
    ∃ r, Ev (fun k => laws_szStringS.f k l left) r ∧ (r < 0 ∨ (0 ≤ r ∧ r ≤ left ∧ (l.length : Int) ≤ left ∧ ∀ x ∈ l, (x.size : Int) ≤ left)) := by
  unfold laws_szStringS.f
  rw [w64 (x := left - (l.length : Int)) (by omega) (by omega)]
  by_cases c : left - (l.length : Int) < 0
  · exact ⟨-1, Ev.pos c (Ev.now _), Or.inl (by omega)⟩
  · have key : ∀ (B A : List ByteArray) (y : Int), l = A ++ B → 0 ≤ y → y ≤ left → ∃ r, Ev (fun k => laws_szStringS.l0 k l y (A.length : Int)) r ∧ (r < 0 ∨ (0 ≤ r ∧ r ≤ y ∧ ∀ x ∈ B, (x.size : Int) ≤ left)) := by
      intro B
      induction B with
      | nil =>
        intro A y h hy0 hy1
        refine ⟨y, Ev.step (f := fun _ => some y) (fun k => ?_) (Ev.now _), Or.inr ⟨hy0, Int.le_refl _, by simp⟩⟩
        simp only [laws_szStringS.l0]
        rw [if_neg (by rw [h]; simp)]
      | cons x B ih =>
        intro A y h hy0 hy1
        have e : l.length = A.length + (B.length + 1) := by rw [h]; simp
        have r : rdOf ByteArray.empty l (A.length : Int) = x := by rw [h]; exact rdB_mid A x B
        have hx : x.size ≤ 9223372036854775807 := hr x (by rw [h]; simp)
        by_cases cx : y - (x.size : Int) < 0
        · refine ⟨-1, Ev.step (f := fun _ => some (-1)) (fun k => ?_) (Ev.now _), Or.inl (by omega)⟩
          simp only [laws_szStringS.l0]
          rw [if_pos (by omega), if_pos (by omega), r, w64 (x := y - (x.size : Int)) (by omega) (by omega), if_pos cx]
        · obtain ⟨q, hq, hq2⟩ := ih (A ++ [x]) (y - (x.size : Int)) (by simp [h]) (by omega) (by omega)
          refine ⟨q, Ev.step (fun k => ?_) hq, ?_⟩
          · simp only [laws_szStringS.l0]
            rw [if_pos (by omega), if_pos (by omega), r, w64 (x := y - (x.size : Int)) (by omega) (by omega), if_neg cx, wsucc (by omega)]
            simp
          · rcases hq2 with hn | ⟨q0, q1, q2⟩
            · exact Or.inl hn
            · refine Or.inr ⟨q0, by omega, fun z hz => ?_⟩
              rcases List.mem_cons.mp hz with rfl | hz
              · omega
              · exact q2 z hz
    obtain ⟨r, h2, h3⟩ := key l [] (left - (l.length : Int)) rfl (by omega) (by omega)
    refine ⟨r, Ev.neg c ?_, ?_⟩
    · simpa using h2
    · rcases h3 with h3 | ⟨h4, h5, h6⟩
      · exact Or.inl h3
      · exact Or.inr ⟨h4, by omega, by omega, h6⟩
theorem toStrS_ev (l : List ByteArray) (hl : l.length ≤ 17592186044416) : Ev (fun k => laws_toStringS.f k l) l := by
  have key : ∀ (B A : List ByteArray), l = A ++ B → Ev (fun k => laws_toStringS.l0 k l (A ++ List.replicate B.length (⟨#[]⟩ : ByteArray)) (A.length : Int)) l := by
    intro B
    induction B with
    | nil =>
      intro A h
      refine Ev.step (f := fun _ => some l) (fun k => ?_) (Ev.now _)
      simp only [laws_toStringS.l0]
      rw [if_neg (by rw [h]; simp)]
      simp [h]
    | cons x B ih =>
      intro A h
      refine Ev.step (fun k => ?_) (ih (A ++ [x]) (by simp [h]))
      have e : l.length = A.length + (B.length + 1) := by rw [h]; simp
      simp only [laws_toStringS.l0]
      rw [if_pos (by omega), if_pos (by omega), if_pos (by simp; omega), wsucc (by omega), Int.toNat_natCast]
      have r : rdOf ByteArray.empty l (A.length : Int) = x := by rw [h]; exact rdB_mid A x B
      rw [r, List.length_cons, List.replicate_succ, set_midI]
      simp
  unfold laws_toStringS.f
  refine Ev.pos (by omega) (Ev.pos (by omega) ?_)
  have z := key l [] rfl
  simpa using z

/-! ### what a matrix makes of texts -/
def tsum : Nat → (Nat → ByteArray) → ByteArray
  | 0, _ => ⟨#[]⟩
  | n + 1, h => addT (tsum n h) (h n)
theorem tsum_size {N : Nat} {h : Nat → ByteArray} : ∀ {n : Nat}, (∀ k, k < n → (h k).size ≤ N) → (tsum n h).size ≤ N
  | 0, _ => Nat.zero_le _
  | n + 1, H => by
    rw [tsum, addT_size]
    have h1 := tsum_size (n := n) (fun k hk => H k (by omega))
    have h2 := H n (by omega)
    omega
def applyM (m : List (List Int)) (u : List ByteArray) : List ByteArray := (List.range m.length).map fun i => tsum u.length (fun j => mulT (ent m i j) (u.getD j ByteArray.empty))
def applyR (m : List (List Int)) (u : List ByteArray) : List ByteArray := if okM m = true ∧ (m.headD []).length = u.length then applyM m u else []
theorem applyR_size (m : List (List Int)) (u : List ByteArray) : (applyR m u).length ≤ 8 := by
  unfold applyR
  by_cases h : okM m = true ∧ (m.headD []).length = u.length
  · rw [if_pos h]
    obtain ⟨_, h2, _⟩ := of_okM h.1
    unfold applyM
    rw [List.length_map, List.length_range]
    exact h2
  · rw [if_neg h]
    simp
theorem unit_size {u : List ByteArray} {N : Nat} (hu : ∀ x ∈ u, x.size ≤ N) (j : Nat) : (u.getD j ByteArray.empty).size ≤ N := by
  rw [List.getD_eq_getElem?_getD]
  by_cases h : j < u.length
  · rw [List.getElem?_eq_getElem h]
    exact hu _ (List.getElem_mem h)
  · rw [List.getElem?_eq_none (by omega)]
    exact Nat.zero_le _

/-! ### impl.ApplyM -/
theorem impl_ApplyM_ev (m : List (List Int)) (u : List ByteArray) (hm : m.length ≤ 1099511627776) (hr : ∀ r ∈ m, r.length ≤ 1099511627776) (hu : ∀ x ∈ u, x.size ≤ 1073741824) : Ev (fun k => impl_ApplyM.f k m u) (applyR m u) := by
  have em := impl_MatrixOk_ev m (by omega) (fun r h => by have := hr r h; omega)
  have bad : Ev (fun k => impl_ApplyM.j0 k m u true) ([] : List ByteArray) := Ev.step (f := fun _ => some []) (fun k => by simp only [impl_ApplyM.j0, if_true]) (Ev.now _)
  unfold impl_ApplyM.f
  refine Ev.bind em ?_
  cases om : okM m with
  | false =>
    rw [show applyR m u = [] by unfold applyR; rw [if_neg (by simp [om])]]
    exact Ev.neg (by simp) bad
  | true =>
    obtain ⟨a1, a2, a3, a4, _⟩ := of_okM om
    refine Ev.pos rfl (Ev.pos (by omega) ?_)
    rw [rdL_zero]
    by_cases hn : (m.headD []).length = u.length
    · rw [show applyR m u = applyM m u by unfold applyR; rw [if_pos ⟨om, hn⟩]]
      rw [show ((((m.headD []).length : Nat) : Int) != ((u.length : Nat) : Int)) = false by rw [hn]; simp]
      have L1 : ∀ (i : Nat), i < m.length → ∀ (out v : List ByteArray), out.length ≤ 8 →
          Ev (fun q => impl_ApplyM.l0 q u (out ++ [tsum u.length (fun j => mulT (ent m i j) (u.getD j ByteArray.empty))]) m (m.length : Int) ((i + 1 : Nat) : Int)) v →
          ∀ d j : Nat, j ≤ u.length → u.length - j = d →
          Ev (fun q => impl_ApplyM.l1 q u out (tsum j (fun j => mulT (ent m i j) (u.getD j ByteArray.empty))) m (m.length : Int) (i : Int) (rd_L1 m (i : Int)) ((rd_L1 m (i : Int)).length : Int) (j : Int)) v := by
        intro i hi out v ho h d
        have hl := rdL_len om hi
        induction d with
        | zero =>
          intro j hj hd
          obtain rfl : j = u.length := by omega
          refine Ev.step (fun q => ?_) h
          simp only [impl_ApplyM.l1]
          rw [if_neg (by omega), if_pos (by omega), wsucc (by omega)]
        | succ d ih =>
          intro j hj hd
          have z := ih (j + 1) (by omega) (by omega)
          rw [tsum] at z
          obtain ⟨q1, q2⟩ := rd_ent om hi (j := j) (by omega)
          have us := unit_size hu j
          have e1 := impl_MulText_ev (a := ((ent m i j : Nat) : Int)) (by omega) (by omega) (u.getD j ByteArray.empty) us
          rw [modb_nat q2] at e1
          have ts := tsum_size (N := 1073741824) (n := j) (h := fun j => mulT (ent m i j) (u.getD j ByteArray.empty)) (fun k _ => by rw [mulT_size]; exact unit_size hu k)
          have e2 := impl_AddText_ev (tsum j (fun j => mulT (ent m i j) (u.getD j ByteArray.empty))) (mulT (ent m i j) (u.getD j ByteArray.empty)) ts (by rw [mulT_size]; exact us)
          refine Ev.step (f := fun q => (impl_MulText.f q ((ent m i j : Nat) : Int) (u.getD j ByteArray.empty)).bind fun t => (impl_AddText.f q (tsum j (fun j => mulT (ent m i j) (u.getD j ByteArray.empty))) t).bind fun s => impl_ApplyM.l1 q u out s m (m.length : Int) (i : Int) (rd_L1 m (i : Int)) ((rd_L1 m (i : Int)).length : Int) ((j + 1 : Nat) : Int)) (fun q => ?_) (Ev.bind e1 (Ev.bind e2 z))
          simp only [impl_ApplyM.l1]
          rw [if_pos (by omega), if_pos (by omega), if_pos (by omega), if_pos (by omega), q1, wsucc (by omega)]
          unfold rdOf
          rw [Int.toNat_natCast]
      have L0 : ∀ d i : Nat, i ≤ m.length → m.length - i = d → Ev (fun q => impl_ApplyM.l0 q u ((List.range i).map fun i => tsum u.length (fun j => mulT (ent m i j) (u.getD j ByteArray.empty))) m (m.length : Int) (i : Int)) (applyM m u) := by
        intro d
        induction d with
        | zero =>
          intro i hi hd
          obtain rfl : i = m.length := by omega
          refine Ev.step (f := fun _ => some (applyM m u)) (fun q => ?_) (Ev.now _)
          simp only [impl_ApplyM.l0]
          rw [if_neg (by omega)]
          rfl
        | succ d ih =>
          intro i hi hd
          have z := ih (i + 1) (by omega) (by omega)
          rw [range_map_succ] at z
          have y := L1 i (by omega) _ _ (by rw [List.length_map, List.length_range]; omega) z u.length 0 (by omega) (by omega)
          refine Ev.step (fun q => ?_) y
          simp only [impl_ApplyM.l0]
          rw [if_pos (by omega), if_pos (by omega), if_pos (by omega)]
          rfl
      have y := L0 m.length 0 (by omega) (by omega)
      refine Ev.step (fun q => ?_) y
      simp only [impl_ApplyM.j0, Bool.false_eq_true, if_false]
      rfl
    · rw [show applyR m u = [] by unfold applyR; rw [if_neg (fun h => hn h.2)]]
      rw [show ((((m.headD []).length : Nat) : Int) != ((u.length : Nat) : Int)) = true from bne_iff_ne.mpr (by omega)]
      exact bad

/-! ### spec.ApplyM -/
theorem spec_ApplyM_ev (m : List (List Int)) (u : List ByteArray) (hm : m.length ≤ 1099511627776) (hr : ∀ r ∈ m, r.length ≤ 1099511627776) (hu : ∀ x ∈ u, x.size ≤ 1073741824) : Ev (fun k => spec_ApplyM.f k m u) (applyR m u) := by
  have em := spec_MatrixOk_ev m (by omega) (fun r h => by have := hr r h; omega)
  have bad : Ev (fun k => spec_ApplyM.j0 k m u [] true) ([] : List ByteArray) := Ev.step (f := fun _ => some []) (fun k => by simp only [spec_ApplyM.j0, if_true]) (Ev.now _)
  unfold spec_ApplyM.f
  refine Ev.some_bind rfl (Ev.bind em ?_)
  cases om : okM m with
  | false =>
    rw [show applyR m u = [] by unfold applyR; rw [if_neg (by simp [om])]]
    exact Ev.neg (by simp) bad
  | true =>
    obtain ⟨a1, a2, a3, a4, _⟩ := of_okM om
    refine Ev.pos rfl (Ev.pos (by omega) ?_)
    rw [rdL_zero]
    by_cases hn : (m.headD []).length = u.length
    · rw [show applyR m u = applyM m u by unfold applyR; rw [if_pos ⟨om, hn⟩]]
      rw [show ((((m.headD []).length : Nat) : Int) != ((u.length : Nat) : Int)) = false by rw [hn]; simp]
      have L1 : ∀ (i : Nat), i < m.length → ∀ (out v : List ByteArray), out.length ≤ 8 →
          Ev (fun q => spec_ApplyM.l0 q m u (out ++ [tsum u.length (fun j => mulT (ent m i j) (u.getD j ByteArray.empty))]) ((i + 1 : Nat) : Int)) v →
          ∀ d j : Nat, j ≤ u.length → u.length - j = d →
          Ev (fun q => spec_ApplyM.l1 q m u out (i : Int) (tsum j (fun j => mulT (ent m i j) (u.getD j ByteArray.empty))) (j : Int)) v := by
        intro i hi out v ho h d
        have hl := rdL_len om hi
        induction d with
        | zero =>
          intro j hj hd
          obtain rfl : j = u.length := by omega
          refine Ev.step (fun q => ?_) h
          simp only [spec_ApplyM.l1]
          rw [if_neg (by omega), if_pos (by omega), wsucc (by omega)]
        | succ d ih =>
          intro j hj hd
          have z := ih (j + 1) (by omega) (by omega)
          rw [tsum] at z
          obtain ⟨q1, q2⟩ := rd_ent om hi (j := j) (by omega)
          have us := unit_size hu j
          have e1 := spec_MulText_ev (a := ((ent m i j : Nat) : Int)) (by omega) (by omega) (u.getD j ByteArray.empty) us
          rw [modb_nat q2] at e1
          have ts := tsum_size (N := 1073741824) (n := j) (h := fun j => mulT (ent m i j) (u.getD j ByteArray.empty)) (fun k _ => by rw [mulT_size]; exact unit_size hu k)
          have e2 := spec_AddText_ev (tsum j (fun j => mulT (ent m i j) (u.getD j ByteArray.empty))) (mulT (ent m i j) (u.getD j ByteArray.empty)) ts (by rw [mulT_size]; exact us)
          refine Ev.step (f := fun q => (spec_MulText.f q ((ent m i j : Nat) : Int) (u.getD j ByteArray.empty)).bind fun t => (spec_AddText.f q (tsum j (fun j => mulT (ent m i j) (u.getD j ByteArray.empty))) t).bind fun s => spec_ApplyM.l1 q m u out (i : Int) s ((j + 1 : Nat) : Int)) (fun q => ?_) (Ev.bind e1 (Ev.bind e2 z))
          simp only [spec_ApplyM.l1]
          rw [if_pos (by omega), if_pos (by omega), if_pos (by omega), if_pos (by omega), if_pos (by omega), q1, wsucc (by omega)]
          unfold rdOf
          rw [Int.toNat_natCast]
      have L0 : ∀ d i : Nat, i ≤ m.length → m.length - i = d → Ev (fun q => spec_ApplyM.l0 q m u ((List.range i).map fun i => tsum u.length (fun j => mulT (ent m i j) (u.getD j ByteArray.empty))) (i : Int)) (applyM m u) := by
        intro d
        induction d with
        | zero =>
          intro i hi hd
          obtain rfl : i = m.length := by omega
          refine Ev.step (f := fun _ => some (applyM m u)) (fun q => ?_) (Ev.now _)
          simp only [spec_ApplyM.l0]
          rw [if_neg (by omega)]
          rfl
        | succ d ih =>
          intro i hi hd
          have z := ih (i + 1) (by omega) (by omega)
          rw [range_map_succ] at z
          have y := L1 i (by omega) _ _ (by rw [List.length_map, List.length_range]; omega) z u.length 0 (by omega) (by omega)
          refine Ev.step (fun q => ?_) y
          simp only [spec_ApplyM.l0]
          rw [if_pos (by omega)]
          rfl
      have y := L0 m.length 0 (by omega) (by omega)
      refine Ev.step (fun q => ?_) y
      simp only [spec_ApplyM.j0, Bool.false_eq_true, if_false]
      rfl
    · rw [show applyR m u = [] by unfold applyR; rw [if_neg (fun h => hn h.2)]]
      rw [show ((((m.headD []).length : Nat) : Int) != ((u.length : Nat) : Int)) = true from bne_iff_ne.mpr (by omega)]
      exact bad

def sumLen : List (List Int) → Nat
  | [] => 0
  | r :: rs => r.length + sumLen rs
theorem sumLen_le {N : Nat} : ∀ {l : List (List Int)}, (∀ r ∈ l, r.length ≤ N) → sumLen l ≤ l.length * N
  | [], _ => by simp [sumLen]
  | r :: rs, h => by
    have h1 := h r (by simp)
    have h2 := sumLen_le (l := rs) (fun x hx => h x (by simp [hx]))
    simp only [sumLen, List.length_cons, Nat.add_mul, Nat.one_mul]
    omega

theorem len_le_sum : ∀ {l : List (List Int)}, ∀ x ∈ l, x.length ≤ sumLen l
  | r :: rs, x, h => by
    rcases List.mem_cons.mp h with rfl | h
    · simp [sumLen]
    · have := len_le_sum x h
      simp only [sumLen]
      omega
theorem szIntSS_sum (l : List (List Int)) (hl : l.length ≤ 9223372036854775807) (hr : ∀ r ∈ l, r.length ≤ 9223372036854775807) (left : Int) (h0 : 0 ≤ left) (h1 : left ≤ 1099511627776) :
    ∃ r, Ev (fun k => laws_szIntSS.f k l left) r ∧ (r < 0 ∨ (0 ≤ r ∧ r + (l.length : Int) + (sumLen l : Int) = left)) := by
  unfold laws_szIntSS.f
  rw [w64 (x := left - (l.length : Int)) (by omega) (by omega)]
  by_cases c : left - (l.length : Int) < 0
  · exact ⟨-1, Ev.pos c (Ev.now _), Or.inl (by omega)⟩
  · have key : ∀ (B A : List (List Int)) (y : Int), l = A ++ B → 0 ≤ y → y ≤ left → ∃ r, Ev (fun k => laws_szIntSS.l0 k l y (A.length : Int)) r ∧ (r < 0 ∨ (0 ≤ r ∧ r + (sumLen B : Int) = y)) := by
      intro B
      induction B with
      | nil =>
        intro A y h hy0 hy1
        refine ⟨y, Ev.step (f := fun _ => some y) (fun k => ?_) (Ev.now _), Or.inr ⟨hy0, by simp [sumLen]⟩⟩
        simp only [laws_szIntSS.l0]
        rw [if_neg (by rw [h]; simp)]
      | cons x B ih =>
        intro A y h hy0 hy1
        have e : l.length = A.length + (B.length + 1) := by rw [h]; simp
        have r : rd_L1 l (A.length : Int) = x := by rw [h]; exact rdL_mid A x B
        have hx : x.length ≤ 9223372036854775807 := hr x (by rw [h]; simp)
        by_cases cx : y - (x.length : Int) < 0
        · refine ⟨-1, Ev.step (f := fun _ => some (-1)) (fun k => ?_) (Ev.now _), Or.inl (by omega)⟩
          simp only [laws_szIntSS.l0, laws_szIntS.f]
          rw [if_pos (by omega), if_pos (by omega), r, w64 (x := y - (x.length : Int)) (by omega) (by omega), if_pos cx]
          rfl
        · obtain ⟨q, hq, hq2⟩ := ih (A ++ [x]) (y - (x.length : Int)) (by simp [h]) (by omega) (by omega)
          refine ⟨q, Ev.step (fun k => ?_) hq, ?_⟩
          · simp only [laws_szIntSS.l0, laws_szIntS.f]
            rw [if_pos (by omega), if_pos (by omega), r, w64 (x := y - (x.length : Int)) (by omega) (by omega), if_neg cx, Option.bind_some, if_neg cx, wsucc (by omega)]
            simp
          · rcases hq2 with hn | ⟨q0, q1⟩
            · exact Or.inl hn
            · refine Or.inr ⟨q0, ?_⟩
              simp only [sumLen]
              omega
    obtain ⟨r, h2, h3⟩ := key l [] (left - (l.length : Int)) rfl (by omega) (by omega)
    refine ⟨r, Ev.neg c ?_, ?_⟩
    · simpa using h2
    · rcases h3 with h3 | ⟨h4, h5⟩
      · exact Or.inl h3
      · exact Or.inr ⟨h4, by omega⟩

/-! ### laws.markIntSS: rows of rows are written through -/
def laws_markIntSS.l0 : Nat → List (List Int) → Int → Int → Option (Int × List (List Int))
  | 0, _, _, _ => none
  | k + 1, x0, x1, x5 => if x5 < (x0.length : Int) then (if 0 ≤ x5 then ((laws_markIntS.f k (rd_L1 x0 x5) x1).bind fun bt => (laws_markIntSS.l0 k (x0.set (x5 : Int).toNat bt.2) bt.1 (wrap64 (x5 + 1)))) else none) else (some (x1, x0))
def laws_markIntSS.f (k : Nat) (l0 : List (List Int)) (a1 : Int) : Option (Int × List (List Int)) := laws_markIntSS.l0 k l0 a1 0
set_option maxHeartbeats 8000000 in
set_option maxRecDepth 100000 in
theorem laws_markIntSS.calls (k : Nat) (P0_ : Nat → Prop) (u9000_ : Value) (l0 : List (List Int)) (a1 : Int) (r1 : Int) (r2 : List (List Int)) (w0 w : World) (hB : Below w0.heap.size w0 w) (ho0 : Kd.S (Kd.slice 3 (Kd.int .i64)) 43 w w0.heap.size P0_ u9000_ l0) (h : laws_markIntSS.f k l0 a1 = some (r1, r2)) :
    Calls Try.prog 22 #[u9000_, .int .i64 a1] w fun e w' => e = .returned (.int .i64 r1) ∧ Kd.S (Kd.slice 3 (Kd.int .i64)) 43 w' w0.heap.size P0_ u9000_ r2 ∧ Below w0.heap.size w0 w' ∧ Kept w w' (fun k_ => P0_ k_) := by
  have HO0 := Aside0.mk ho0
  have HK := Aside0.mk (Kept.refl w (fun k_ => P0_ k_))
  have HB := Aside0.mk hB
  clear hB ho0
  have H' := Aside0.mk (show laws_markIntSS.l0 k l0 a1 0 = some (r1, r2) from h)
  clear h
  go_enter Try.func22, Try.ntmps22
  go_wp2
  go_loopg [1, 5] k (fun kq v1 v5 w' => ∃ (x0_1 : List (List Int)) (x1_1 : Int) (x5_1 : Int), v1 = .int .i64 x1_1 ∧ v5 = .int .i64 x5_1 ∧ Aside0 (laws_markIntSS.l0 kq x0_1 x1_1 x5_1 = some (r1, r2)) ∧ Aside0 (kq ≤ k) ∧ Aside0 (Kd.S (Kd.slice 3 (Kd.int .i64)) 43 w' w0.heap.size P0_ u9000_ x0_1) ∧ Aside0 (Kept w w' (fun k_ => P0_ k_)) ∧ Aside0 (Below w0.heap.size w0 w'))
  case atStart => exact ⟨l0, a1, 0, rfl, rfl, H', ⟨Nat.le_refl _⟩, ⟨by (with_reducible repeat (first | apply Kd.S_alloc | apply Kd.S_drewN | apply Kd.S_drew)); exact HO0.out⟩, ⟨by repeat (first | (with_reducible first | exact HK.out | apply Kept.alloc | apply Kept.drewN | apply Kept.drew) | exact HK.out)⟩, ⟨by repeat (first | (with_reducible first | exact HB.out | apply below_alloc | apply pw_below_drewN | apply below_drew1) | exact HB.out)⟩⟩
  case round =>
    clear H'
    obtain ⟨x0_1, x1_1, x5_1, rfl, rfl, HA, HK1, HO_0, HK, HB⟩ := hrel
    cases gk with
    | zero => exact absurd HA.out (by simp [laws_markIntSS.l0])
    | succ k1 =>
      have H := HA.out
      clear HA
      simp only [laws_markIntSS.l0] at H
      by_cases c3 : x5_1 < (x0_1.length : Int)
      · rw [if_pos c3] at H
        have c3b0 : decide (x5_1 < (x0_1.length : Int)) = true := decide_eq_true c3
        clear c3
        by_cases c4 : 0 ≤ x5_1
        · rw [if_pos c4] at H
          have c4b0 : decide (0 ≤ x5_1) = true := decide_eq_true c4
          clear c4
          replace H := Option.bind_eq_some_iff.mp H
          obtain ⟨⟨t1, t2⟩, A50, H⟩ := H
          have A5 := Aside0.mk A50
          clear A50
          have H' := Aside0.mk H
          clear H
          obtain ⟨Ao6, co6, eo6⟩ := Kd.S_slice HO_0.out
          subst eo6
          have p5 : 0 ≤ (x5_1 : Int) := of_decide_eq_true (by first | (with_reducible assumption) | assumption)
          have q5 : (x5_1 : Int) < ((x0_1.length : Int) : Int) := of_decide_eq_true (by first | (with_reducible assumption) | assumption)
          obtain ⟨go5, co5, eo5, gb5, gl5, cl5, HG5⟩ := Kd.S_form HO_0.out (by omega)
          (first | cases eo5 | (injection eo5 with ea_ en_ ec_; (first | subst ea_ | (injection ea_ with ea_; subst ea_)); subst ec_; clear en_))
          obtain ⟨oki, ce, hcl, hM, hcc, hoki, hH⟩ := Kd.S_lend HO_0.out [] (x5_1 : Int) p5 q5
          obtain ⟨ve, rfl, hR0⟩ := hM
          have hR : Kd.R (Kd.int .i64) 3 wr w0.heap.size oki ve (rd_L1 x0_1 x5_1) := hR0
          obtain ⟨A1, c1, e1⟩ := Kd.R_slice hR
          subst e1
          have hx5_0 := hcc 0 _ rfl
          simp only [show ((Kd.slice 3 (Kd.int .i64))).sz = 1 from rfl, Nat.mul_one, Nat.add_zero] at hx5_0
          replace p5 := eq_true p5
          replace q5 := eq_true q5
          go_wp2_with (first | ((with_reducible refine gate_callee (f := 53) rfl ?_); refine goesL_ (some 17) rfl rfl Try.func53 (by kernel_rfl) rfl #[.slice A1 (rd_L1 x0_1 x5_1).length c1, .int .i64 x1_1] rfl (by (try simp only [List.map_toArray, List.map_cons, List.map_nil]); first | done | rfl) ?_; (with_reducible refine (laws_markIntS.calls k1 oki (.slice A1 (rd_L1 x0_1 x5_1).length c1) (rd_L1 x0_1 x5_1) x1_1 t1 t2 w0 _ ?side1 ?side2 A5.out).mono ?_); (case side1 => repeat (first | (with_reducible first | exact HB.out | apply below_alloc | apply pw_below_drewN | apply below_drew1) | exact HB.out)); (case side2 => (with_reducible repeat (first | apply Kd.R_alloc | apply Kd.R_drewN | apply Kd.R_drew)); exact hR); rintro e w8 ⟨rfl, hy0, hb, hkp⟩; refine ⟨_, rfl, ?_⟩; have n0_ := Kd.H_back (Kd.H_kept (by (with_reducible repeat (first | apply Kd.H_alloc | apply Kd.H_drewN | apply Kd.H_drew)); exact hH) hkp (fun k_ _ hn => hn)) (Kd.M_row (Kd.R_reok (ok := oki) rfl hy0 (fun k_ e_ => hR.1 k_ e_))) (fun _ h_ => h_); have n1_ : Kept w w8 (fun k_ => P0_ k_) := Kept.then_ (by repeat (first | (with_reducible first | exact HK.out | apply Kept.alloc | apply Kept.drewN | apply Kept.drew) | exact HK.out)) hkp (fun k_ h_ => .inl (hoki k_ h_).1); clear HB HK HO_0 hH hkp hy0))
          go_roundg k1
          case measure => have := HK1.out; omega
          case rel => exact ⟨_, _, _, rfl, rfl, H', ⟨by have := HK1.out; omega⟩, ⟨by (with_reducible repeat (first | apply Kd.S_alloc | apply Kd.S_drewN | apply Kd.S_drew)); exact n0_⟩, ⟨by repeat (first | (with_reducible first | exact n1_ | apply Kept.alloc | apply Kept.drewN | apply Kept.drew) | exact n1_)⟩, ⟨by repeat (first | (with_reducible first | exact hb | apply below_alloc | apply pw_below_drewN | apply below_drew1) | exact hb)⟩⟩
        · rw [if_neg c4] at H
          exact absurd H (by simp)
      · rw [if_neg c3] at H
        have c3b0 : decide (x5_1 < (x0_1.length : Int)) = false := decide_eq_false c3
        clear c3
        simp only [Option.some.injEq, Prod.mk.injEq] at H
        obtain ⟨rfl, rfl⟩ := H
        obtain ⟨Ao9, co9, eo9⟩ := Kd.S_slice HO_0.out
        subst eo9
        go_wp2
        go_ret
        exact ⟨rfl, by (with_reducible repeat (first | apply Kd.S_alloc | apply Kd.S_drewN | apply Kd.S_drew)); exact HO_0.out, by repeat (first | (with_reducible first | exact HB.out | apply below_alloc | apply pw_below_drewN | apply below_drew1) | exact HB.out), by repeat (first | (with_reducible first | exact HK.out | apply Kept.alloc | apply Kept.drewN | apply Kept.drew) | exact HK.out)⟩

/-! ### marks in rows of rows -/
def mrow (n m : Nat) : List Int := (List.range n).map fun i => ((m + i : Nat) : Int)
def mrows : List (List Int) → Nat → List (List Int)
  | [], _ => []
  | r :: rs, m => mrow r.length m :: mrows rs (m + r.length)
theorem mrows_length : ∀ (l : List (List Int)) (m : Nat), (mrows l m).length = l.length
  | [], _ => rfl
  | r :: rs, m => by simp [mrows, mrows_length rs]
theorem mrow_length (n m : Nat) : (mrow n m).length = n := by simp [mrow]
theorem mrow_succ (n m : Nat) : mrow (n + 1) m = mrow n m ++ [((m + n : Nat) : Int)] := by simp [mrow, List.range_succ]
theorem markI_ev (l : List Int) (m : Nat) (hl : m + l.length ≤ 4611686018427387904) : Ev (fun k => laws_markIntS.f k l (m : Int)) (((m + l.length : Nat) : Int), mrow l.length m) := by
  have key : ∀ (B A : List Int) (i : Nat), A = mrow i m → m + i + B.length ≤ 4611686018427387904 → Ev (fun k => laws_markIntS.l0 k (A ++ B) ((m + i : Nat) : Int) (i : Int)) (((m + i + B.length : Nat) : Int), mrow (i + B.length) m) := by
    intro B
    induction B with
    | nil =>
      intro A i h hb
      refine Ev.step (f := fun _ => some (((m + i : Nat) : Int), A ++ [])) (fun k => ?_) ?_
      · simp only [laws_markIntS.l0]
        rw [if_neg (by rw [h]; simp [mrow_length])]
      · subst h
        simpa using Ev.now _
    | cons x B ih =>
      intro A i h hb
      have z := ih (A ++ [((m + i : Nat) : Int)]) (i + 1) (by rw [h, mrow_succ]) (by simp at hb; omega)
      have e1 : m + (i + 1) + B.length = m + i + (x :: B).length := by simp; omega
      have e2 : i + 1 + B.length = i + (x :: B).length := by simp; omega
      rw [e1, e2] at z
      have la : A.length = i := by rw [h, mrow_length]
      refine Ev.step (fun k => ?_) z
      simp only [laws_markIntS.l0]
      rw [if_pos (by simp; omega), if_pos (by omega), wsucc (by simp at hb; omega), wsucc (by simp at hb; omega), Int.toNat_natCast, show (A ++ x :: B).set i ((m + i : Nat) : Int) = A ++ ((m + i : Nat) : Int) :: B by rw [← la]; exact set_midI A x _ B]
      simp [Nat.add_assoc]
  have z := key l [] 0 rfl (by omega)
  unfold laws_markIntS.f
  simpa using z
theorem markSS_ev (l : List (List Int)) (m : Nat) (hl : m + sumLen l ≤ 4611686018427387904) (hn : l.length ≤ 4611686018427387904) : Ev (fun k => laws_markIntSS.f k l (m : Int)) (((m + sumLen l : Nat) : Int), mrows l m) := by
  have key : ∀ (B A : List (List Int)) (m i : Nat), A.length = i → i + B.length ≤ 4611686018427387904 → m + sumLen B ≤ 4611686018427387904 → Ev (fun k => laws_markIntSS.l0 k (A ++ B) ((m : Nat) : Int) (i : Int)) (((m + sumLen B : Nat) : Int), A ++ mrows B m) := by
    intro B
    induction B with
    | nil =>
      intro A m i h hb hs
      refine Ev.step (f := fun _ => some (((m : Nat) : Int), A ++ [])) (fun k => ?_) ?_
      · simp only [laws_markIntSS.l0]
        rw [if_neg (by simp; omega)]
      · simpa [sumLen, mrows] using Ev.now _
    | cons x B ih =>
      intro A m i h hb hs
      simp only [sumLen] at hs
      simp only [List.length_cons] at hb
      have z := ih (A ++ [mrow x.length m]) (m + x.length) (i + 1) (by simp [h]) (by omega) (by omega)
      have r : rd_L1 (A ++ x :: B) (i : Int) = x := by rw [← h]; exact rdL_mid A x B
      refine Ev.step (f := fun k => (laws_markIntS.f k x (m : Int)).bind fun bt => laws_markIntSS.l0 k ((A ++ x :: B).set i bt.2) bt.1 ((i + 1 : Nat) : Int)) (fun k => ?_) (Ev.bind (markI_ev x m (by omega)) ?_)
      · simp only [laws_markIntSS.l0]
        rw [if_pos (by simp; omega), if_pos (by omega), r, wsucc (by omega), Int.toNat_natCast]
      · rw [← h, set_midI, h]
        simpa [sumLen, mrows, Nat.add_assoc] using z
  have z := key l [] m 0 rfl (by omega) hl
  unfold laws_markIntSS.f
  simpa using z

/-! ### marks -/
theorem markText_ex (m : Nat) (hm : m ≤ 1000000000000) : ∃ t, Ev (fun k => laws_markText.f k (m : Int)) t := by
  have key : ∀ (f : Nat) (x : Nat) (acc : ByteArray), x < 10 ^ f → x ≤ 1000000000000 → acc.size + f ≤ 1000 → ∃ t, Ev (fun k => laws_markText.l0 k (x : Int) acc) t := by
    intro f
    induction f with
    | zero =>
      intro x acc hx hf ha
      refine ⟨_, Ev.step (fun k => ?_) (Ev.now ((⟨#[109]⟩ : ByteArray) ++ acc))⟩
      simp only [laws_markText.l0]
      rw [if_neg (by omega), if_pos (by omega)]
    | succ f ih =>
      intro x acc hx hf ha
      by_cases h : x = 0
      · refine ⟨_, Ev.step (fun k => ?_) (Ev.now ((⟨#[109]⟩ : ByteArray) ++ acc))⟩
        simp only [laws_markText.l0]
        rw [if_neg (by omega), if_pos (by omega)]
      · have hp : 10 ^ (f + 1) = 10 * 10 ^ f := by rw [Nat.pow_succ]; omega
        have hs : ∀ c : Int, (strOfNums [c]).size = 1 := fun c => by rw [strOfNums_size]; rfl
        obtain ⟨t, ht⟩ := ih (x / 10) (strOfNums [(wrap64 (48 + (Int.tmod (x : Int) 10))) % 256] ++ acc) (by omega) (by omega) (by rw [ByteArray.size_append, hs]; omega)
        refine ⟨t, Ev.step (fun k => ?_) ht⟩
        simp only [laws_markText.l0, Option.bind_some]
        rw [if_pos (by omega), if_pos (by rw [hs]; omega), Int.tdiv_eq_ediv_of_nonneg (by omega), w64 (x := (x : Int) / 10) (by omega) (by omega)]
        rfl
  unfold laws_markText.f
  by_cases h : (m : Int) ≤ 0
  · simp only [if_pos h]
    exact ⟨_, Ev.now _⟩
  · simp only [if_neg h]
    exact key 13 m _ (by omega) hm (by decide)
theorem markText_fun : ∃ T : Nat → ByteArray, ∀ m : Nat, m ≤ 1000000000000 → Ev (fun k => laws_markText.f k (m : Int)) (T m) := by
  refine ⟨fun m => if h : m ≤ 1000000000000 then Classical.choose (markText_ex m h) else ByteArray.empty, fun m h => ?_⟩
  simp only [dif_pos h]
  exact Classical.choose_spec (markText_ex m h)
def marked (T : Nat → ByteArray) (m n : Nat) : List ByteArray := (List.range n).map fun i => T (m + i)
theorem marked_length (T : Nat → ByteArray) (m n : Nat) : (marked T m n).length = n := by simp [marked]
theorem markS_ev (T : Nat → ByteArray) (hT : ∀ m : Nat, m ≤ 1000000000000 → Ev (fun k => laws_markText.f k (m : Int)) (T m)) (l : List ByteArray) (m : Nat) (hl : l.length + m ≤ 1000000000000) :
    Ev (fun k => laws_markStringS.f k l (m : Int)) (((m + l.length : Nat) : Int), marked T m l.length) := by
  have key : ∀ d (i : Nat), i ≤ l.length → l.length - i = d → Ev (fun k => laws_markStringS.l0 k (marked T m i ++ l.drop i) ((m + i : Nat) : Int) (i : Int)) (((m + l.length : Nat) : Int), marked T m l.length) := by
    intro d
    induction d with
    | zero =>
      intro i hi hd
      obtain rfl : i = l.length := by omega
      rw [List.drop_length, List.append_nil]
      exact Ev.step (f := fun _ => some (((m + l.length : Nat) : Int), marked T m l.length)) (fun k => by simp only [laws_markStringS.l0]; rw [marked_length, if_neg (by omega)]) (Ev.now _)
    | succ d ih =>
      intro i hi hd
      have hlen : (marked T m i ++ l.drop i).length = l.length := by rw [List.length_append, marked_length, List.length_drop]; omega
      have hset : (marked T m i ++ l.drop i).set i (T (m + i)) = marked T m (i + 1) ++ l.drop (i + 1) := by
        rw [List.set_append_right _ _ (by rw [marked_length]; omega), marked_length, Nat.sub_self, List.drop_eq_getElem_cons (by omega), List.set_cons_zero]
        simp [marked, List.range_succ]
      refine Ev.step (fun k => ?_) (Ev.bind (hT (m + i) (by omega)) (f := fun k t => laws_markStringS.l0 k ((marked T m i ++ l.drop i).set i t) ((m + (i + 1) : Nat) : Int) ((i + 1 : Nat) : Int)) ?_)
      · simp only [laws_markStringS.l0]
        rw [hlen, if_pos (by omega), wsucc (n := m + i) (by omega), wsucc (n := i) (by omega)]
        simp only [if_pos (show 0 ≤ (i : Int) by omega), Int.toNat_natCast]
        rfl
      · simp only [hset]
        exact ih (i + 1) (by omega) (by omega)
  have := key l.length 0 (by omega) (by omega)
  exact this
theorem heldS_ev (T : Nat → ByteArray) (hT : ∀ m : Nat, m ≤ 1000000000000 → Ev (fun k => laws_markText.f k (m : Int)) (T m)) (n m : Nat) (hl : n + m ≤ 1000000000000) :
    Ev (fun k => laws_heldStringS.f k (marked T m n) (m : Int)) ((m + n : Nat) : Int) := by
  have key : ∀ d (i : Nat), i ≤ n → n - i = d → Ev (fun k => laws_heldStringS.l0 k (marked T m n) ((m + i : Nat) : Int) (i : Int)) ((m + n : Nat) : Int) := by
    intro d
    induction d with
    | zero =>
      intro i hi hd
      obtain rfl : i = n := by omega
      exact Ev.step (f := fun _ => some ((m + i : Nat) : Int)) (fun k => by simp only [laws_heldStringS.l0]; rw [marked_length, if_neg (by omega)]) (Ev.now _)
    | succ d ih =>
      intro i hi hd
      have hg : rdOf ByteArray.empty (marked T m n) (i : Int) = T (m + i) := by
        rw [rdB_nat (by rw [marked_length]; omega)]
        simp [marked]
      refine Ev.step (fun k => ?_) (Ev.bind (hT (m + i) (by omega)) (f := fun k t => if (T (m + i)).toList = t.toList then laws_heldStringS.l0 k (marked T m n) ((m + (i + 1) : Nat) : Int) ((i + 1 : Nat) : Int) else some (-1)) ?_)
      · simp only [laws_heldStringS.l0]
        rw [marked_length, if_pos (by omega), if_pos (by omega), hg, wsucc (n := m + i) (by omega), wsucc (n := i) (by omega)]
        rfl
      · simp only [if_true]
        exact ih (i + 1) (by omega) (by omega)
  exact key n 0 (by omega) (by omega)

set_option maxHeartbeats 8000000 in
set_option maxRecDepth 100000 in
theorem FnExactApplyM_walkA (k : Nat) (A0 : Option Addr) (c0 : Nat) (l0 : List (List Int)) (A1 : Option Addr) (c1 : Nat) (l1 : List ByteArray) (R1 : Int) (w : World) (hr0 : Kd.C (Kd.slice 3 (Kd.int .i64)) w A0 l0.length l0) (hc0 : l0.length ≤ c0) (hR1 : decide (R1 < 0) = true) (hh1 : laws_szIntSS.f k l0 1048576 = some R1) :
    Calls Try.prog 6 #[.slice A0 l0.length c0, .slice A1 l1.length c1] w fun e w' => e = .returned (.bool true) ∧ Below w.heap.size w w' := by
  have HB := Below.refl w.heap.size w
  go_enter Try.func6, Try.ntmps6
  go_wp2_with (first | ((with_reducible refine gate_callee (f := 11) rfl ?_); refine goesL_ (some 16) rfl rfl Try.func11 (by kernel_rfl) rfl #[.slice A0 (l0).length c0, .int .i64 1048576] rfl (by (try simp only [List.map_toArray, List.map_cons, List.map_nil]); first | done | rfl) ?_; (with_reducible refine (laws_szIntSS.calls k _ _ (l0) (1048576) (R1) _ ?side1 ?side2 hh1).mono ?_); (case side1 => repeat (first | exact Kd.C_below hr0 HB | (with_reducible refine Kd.C_alloc ?_ _) | (with_reducible refine Kd.C_drewN ?_ _) | (with_reducible refine Kd.C_drew ?_))); (case side2 => exact hc0); rintro e w1 ⟨rfl, hd⟩; refine ⟨_, rfl, ?_⟩; have hb := hd.below; have HB := below_step (by repeat (first | (with_reducible first | exact HB | apply below_alloc | apply pw_below_drewN | apply below_drew1) | exact HB)) hb; have hz1 : w.heap.size ≤ w1.heap.size := hb.size; clear hb))
  go_ret
  exact ⟨rfl, by repeat (first | (with_reducible first | exact HB | apply below_alloc | apply pw_below_drewN | apply below_drew1) | exact HB)⟩

set_option maxHeartbeats 8000000 in
set_option maxRecDepth 100000 in
theorem FnExactApplyM_walkB (k : Nat) (A0 : Option Addr) (c0 : Nat) (l0 : List (List Int)) (A1 : Option Addr) (c1 : Nat) (l1 : List ByteArray) (R1 R2 : Int) (w : World) (hr0 : Kd.C (Kd.slice 3 (Kd.int .i64)) w A0 l0.length l0) (hc0 : l0.length ≤ c0) (hr1 : Kd.C Kd.string w A1 l1.length l1) (hc1 : l1.length ≤ c1) (hR1 : decide (R1 < 0) = false) (hR2 : decide (R2 < 0) = true) (hh1 : laws_szIntSS.f k l0 1048576 = some R1) (hh2 : laws_szStringS.f k l1 R1 = some R2) :
    Calls Try.prog 6 #[.slice A0 l0.length c0, .slice A1 l1.length c1] w fun e w' => e = .returned (.bool true) ∧ Below w.heap.size w w' := by
  have HB := Below.refl w.heap.size w
  go_enter Try.func6, Try.ntmps6
  go_wp2_with (first | ((with_reducible refine gate_callee (f := 11) rfl ?_); refine goesL_ (some 16) rfl rfl Try.func11 (by kernel_rfl) rfl #[.slice A0 (l0).length c0, .int .i64 1048576] rfl (by (try simp only [List.map_toArray, List.map_cons, List.map_nil]); first | done | rfl) ?_; (with_reducible refine (laws_szIntSS.calls k _ _ (l0) (1048576) (R1) _ ?side1 ?side2 hh1).mono ?_); (case side1 => repeat (first | exact Kd.C_below hr0 HB | (with_reducible refine Kd.C_alloc ?_ _) | (with_reducible refine Kd.C_drewN ?_ _) | (with_reducible refine Kd.C_drew ?_))); (case side2 => exact hc0); rintro e w1 ⟨rfl, hd⟩; refine ⟨_, rfl, ?_⟩; have hb := hd.below; have HB := below_step (by repeat (first | (with_reducible first | exact HB | apply below_alloc | apply pw_below_drewN | apply below_drew1) | exact HB)) hb; have hz1 : w.heap.size ≤ w1.heap.size := hb.size; clear hb) | ((with_reducible refine gate_callee (f := 24) rfl ?_); refine goesL_ (some 21) rfl rfl Try.func24 (by kernel_rfl) rfl #[.slice A1 (l1).length c1, .int .i64 (R1)] rfl (by (try simp only [List.map_toArray, List.map_cons, List.map_nil]); first | done | rfl) ?_; (with_reducible refine (laws_szStringS.calls k _ _ (l1) (R1) (R2) _ ?side1 ?side2 hh2).mono ?_); (case side1 => repeat (first | exact Kd.C_below hr1 HB | (with_reducible refine Kd.C_alloc ?_ _) | (with_reducible refine Kd.C_drewN ?_ _) | (with_reducible refine Kd.C_drew ?_))); (case side2 => exact hc1); rintro e w2 ⟨rfl, hd⟩; refine ⟨_, rfl, ?_⟩; have hb := hd.below; have HB := below_step (by repeat (first | (with_reducible first | exact HB | apply below_alloc | apply pw_below_drewN | apply below_drew1) | exact HB)) hb; have hz2 : w1.heap.size ≤ w2.heap.size := hb.size; clear hb))
  go_ret
  exact ⟨rfl, by repeat (first | (with_reducible first | exact HB | apply below_alloc | apply pw_below_drewN | apply below_drew1) | exact HB)⟩

set_option maxHeartbeats 8000000 in
set_option maxRecDepth 100000 in
theorem FnExactApplyM_walkC (k : Nat) (A0 : Option Addr) (c0 : Nat) (l0 : List (List Int)) (A1 : Option Addr) (c1 : Nat) (l1 : List ByteArray) (R1 R2 : Int) (l0' : List (List Int)) (r l1' r' : List ByteArray) (M1 M2 M : Int) (w : World) (hr0 : Kd.C (Kd.slice 3 (Kd.int .i64)) w A0 l0.length l0) (hc0 : l0.length ≤ c0) (hr1 : Kd.C Kd.string w A1 l1.length l1) (hc1 : l1.length ≤ c1) (hR1 : decide (R1 < 0) = false) (hR2 : decide (R2 < 0) = false) (hM2 : decide (M2 < 0) = false) (hM : decide (M < 0) = false) (hl : r'.length = r.length) (hh1 : laws_szIntSS.f k l0 1048576 = some R1) (hh2 : laws_szStringS.f k l1 R1 = some R2) (hh3 : laws_toIntSS.f k l0 = some l0) (hh4 : laws_toStringS.f k l1 = some l1) (hh5 : spec_ApplyM.f k l0 l1 = some r) (hh8 : impl_ApplyM.f k l0 l1 = some r) (hh9 : laws_eqStringS.f k r r = some true) (hh11 : laws_eqIntSS.f k l0 l0 = some true) (hh13 : laws_eqStringS.f k l1 l1 = some true) (hh14 : laws_markIntSS.f k l0 1 = some ((M1, l0'))) (hh15 : laws_markStringS.f k l1 M1 = some ((M2, l1'))) (hh17 : laws_markStringS.f k r 1 = some ((M, r'))) (hh18 : laws_heldStringS.f k r' 1 = some M) :
    Calls Try.prog 6 #[.slice A0 l0.length c0, .slice A1 l1.length c1] w fun e w' => e = .returned (.bool true) ∧ Below w.heap.size w w' := by
  have HB := Below.refl w.heap.size w
  go_enter Try.func6, Try.ntmps6
  go_wp2_with (first | ((with_reducible refine gate_callee (f := 11) rfl ?_); refine goesL_ (some 16) rfl rfl Try.func11 (by kernel_rfl) rfl #[.slice A0 (l0).length c0, .int .i64 1048576] rfl (by (try simp only [List.map_toArray, List.map_cons, List.map_nil]); first | done | rfl | (rw [hl]; rfl) | (rw [← hl]; rfl)) ?_; (with_reducible refine (laws_szIntSS.calls k _ _ (l0) (1048576) (R1) _ ?side1 ?side2 hh1).mono ?_); (case side1 => repeat (first | exact Kd.C_below hr0 HB | (with_reducible refine Kd.C_alloc ?_ _) | (with_reducible refine Kd.C_drewN ?_ _) | (with_reducible refine Kd.C_drew ?_))); (case side2 => exact hc0); rintro e w1 ⟨rfl, hd⟩; refine ⟨_, rfl, ?_⟩; have hb := hd.below; have HB := below_step (by repeat (first | (with_reducible first | exact HB | apply below_alloc | apply pw_below_drewN | apply below_drew1) | exact HB)) hb; have hz1 : w.heap.size ≤ w1.heap.size := hb.size; clear hb) | ((with_reducible refine gate_callee (f := 24) rfl ?_); refine goesL_ (some 21) rfl rfl Try.func24 (by kernel_rfl) rfl #[.slice A1 (l1).length c1, .int .i64 (R1)] rfl (by (try simp only [List.map_toArray, List.map_cons, List.map_nil]); first | done | rfl | (rw [hl]; rfl) | (rw [← hl]; rfl)) ?_; (with_reducible refine (laws_szStringS.calls k _ _ (l1) (R1) (R2) _ ?side1 ?side2 hh2).mono ?_); (case side1 => repeat (first | exact Kd.C_below hr1 HB | (with_reducible refine Kd.C_alloc ?_ _) | (with_reducible refine Kd.C_drewN ?_ _) | (with_reducible refine Kd.C_drew ?_))); (case side2 => exact hc1); rintro e w2 ⟨rfl, hd⟩; refine ⟨_, rfl, ?_⟩; have hb := hd.below; have HB := below_step (by repeat (first | (with_reducible first | exact HB | apply below_alloc | apply pw_below_drewN | apply below_drew1) | exact HB)) hb; have hz2 : w1.heap.size ≤ w2.heap.size := hb.size; clear hb) | ((with_reducible refine gate_callee (f := 13) rfl ?_); refine goesL_ (some 25) rfl rfl Try.func13 (by kernel_rfl) rfl #[.slice A0 (l0).length c0] rfl (by (try simp only [List.map_toArray, List.map_cons, List.map_nil]); first | done | rfl | (rw [hl]; rfl) | (rw [← hl]; rfl)) ?_; (with_reducible refine (laws_toIntSS.calls k _ _ (l0) (l0) _ ?side1 ?side2 hh3).mono ?_); (case side1 => repeat (first | exact Kd.C_below hr0 HB | (with_reducible refine Kd.C_alloc ?_ _) | (with_reducible refine Kd.C_drewN ?_ _) | (with_reducible refine Kd.C_drew ?_))); (case side2 => exact hc0); rintro e w3 ⟨v, rfl, ho, hb⟩; obtain ⟨A3, c3, rfl⟩ := Kd.S_slice ho; refine ⟨_, rfl, ?_⟩; have hs3 := Kd.S_lower (Kd.S_mono (ok' := fun k_ => w2.heap.size ≤ k_ ∧ k_ < w3.heap.size) (Kd.S_bound ho) (fun k_ hk_ => ⟨hk_.2.1, hk_.2.2.1⟩)) (show w.heap.size ≤ w2.heap.size from HB.size); clear ho; have HB := below_step (by repeat (first | (with_reducible first | exact HB | apply below_alloc | apply pw_below_drewN | apply below_drew1) | exact HB)) hb; have hz3 : w2.heap.size ≤ w3.heap.size := hb.size; clear hb) | ((with_reducible refine gate_callee (f := 26) rfl ?_); refine goesL_ (some 27) rfl rfl Try.func26 (by kernel_rfl) rfl #[.slice A1 (l1).length c1] rfl (by (try simp only [List.map_toArray, List.map_cons, List.map_nil]); first | done | rfl | (rw [hl]; rfl) | (rw [← hl]; rfl)) ?_; (with_reducible refine (laws_toStringS.calls k _ _ (l1) (l1) _ ?side1 ?side2 hh4).mono ?_); (case side1 => repeat (first | exact Kd.C_below hr1 HB | (with_reducible refine Kd.C_alloc ?_ _) | (with_reducible refine Kd.C_drewN ?_ _) | (with_reducible refine Kd.C_drew ?_))); (case side2 => exact hc1); rintro e w4 ⟨v, rfl, ho, hb⟩; obtain ⟨A4, c4, rfl⟩ := Kd.R_slice ho; refine ⟨_, rfl, ?_⟩; have hs3 := Kd.S_below (by (with_reducible repeat (first | apply Kd.S_alloc | apply Kd.S_drewN | apply Kd.S_drew)); exact hs3) hb; have hs4 := Kd.R_lower (Kd.R_mono (ok' := fun k_ => w3.heap.size ≤ k_ ∧ k_ < w4.heap.size) (Kd.R_bound ho) (fun k_ hk_ => ⟨hk_.2.1, hk_.2.2.1⟩)) (show w.heap.size ≤ w3.heap.size from HB.size); clear ho; have HB := below_step (by repeat (first | (with_reducible first | exact HB | apply below_alloc | apply pw_below_drewN | apply below_drew1) | exact HB)) hb; have hz4 : w3.heap.size ≤ w4.heap.size := hb.size; clear hb) | ((with_reducible refine gate_callee (f := 25) rfl ?_); refine goesL_ (some 28) rfl rfl Try.func25 (by kernel_rfl) rfl #[.slice A3 (l0).length c3, .slice A4 (l1).length c4] rfl (by (try simp only [List.map_toArray, List.map_cons, List.map_nil]); first | done | rfl | (rw [hl]; rfl) | (rw [← hl]; rfl)) ?_; (with_reducible refine (spec_ApplyM.calls k _ _ (l0) _ _ (l1) (r) _ ?side1 ?side2 ?side3 ?side4 hh5).mono ?_); (case side1 => repeat (first | exact (Kd.S_reads' hs3).2.2 | (with_reducible refine Kd.C_alloc ?_ _) | (with_reducible refine Kd.C_drewN ?_ _) | (with_reducible refine Kd.C_drew ?_))); (case side2 => have h_ := (Kd.S_reads' hs3).2.1; have e_ := (Kd.S_reads' hs3).1; omega); (case side3 => repeat (first | exact (Kd.R_reads' hs4).2.2 | (with_reducible refine Kd.C_alloc ?_ _) | (with_reducible refine Kd.C_drewN ?_ _) | (with_reducible refine Kd.C_drew ?_))); (case side4 => have h_ := (Kd.R_reads' hs4).2.1; have e_ := (Kd.R_reads' hs4).1; omega); rintro e w5 ⟨v, rfl, ho, hb⟩; obtain ⟨A5, c5, rfl⟩ := Kd.R_slice ho; refine ⟨_, rfl, ?_⟩; have hs3 := Kd.S_below (by (with_reducible repeat (first | apply Kd.S_alloc | apply Kd.S_drewN | apply Kd.S_drew)); exact hs3) hb; have hs4 := Kd.R_below (by (with_reducible repeat (first | apply Kd.R_alloc | apply Kd.R_drewN | apply Kd.R_drew)); exact hs4) hb; have hs5 := Kd.R_lower (Kd.R_mono (ok' := fun k_ => w4.heap.size ≤ k_ ∧ k_ < w5.heap.size) (Kd.R_bound ho) (fun k_ hk_ => ⟨hk_.2.1, hk_.2.2.1⟩)) (show w.heap.size ≤ w4.heap.size from HB.size); clear ho; have HB := below_step (by repeat (first | (with_reducible first | exact HB | apply below_alloc | apply pw_below_drewN | apply below_drew1) | exact HB)) hb; have hz5 : w4.heap.size ≤ w5.heap.size := hb.size; clear hb) | ((with_reducible refine gate_callee (f := 13) rfl ?_); refine goesL_ (some 30) rfl rfl Try.func13 (by kernel_rfl) rfl #[.slice A0 (l0).length c0] rfl (by (try simp only [List.map_toArray, List.map_cons, List.map_nil]); first | done | rfl | (rw [hl]; rfl) | (rw [← hl]; rfl)) ?_; (with_reducible refine (laws_toIntSS.calls k _ _ (l0) (l0) _ ?side1 ?side2 hh3).mono ?_); (case side1 => repeat (first | exact Kd.C_below hr0 HB | (with_reducible refine Kd.C_alloc ?_ _) | (with_reducible refine Kd.C_drewN ?_ _) | (with_reducible refine Kd.C_drew ?_))); (case side2 => exact hc0); rintro e w6 ⟨v, rfl, ho, hb⟩; obtain ⟨A6, c6, rfl⟩ := Kd.S_slice ho; refine ⟨_, rfl, ?_⟩; have hs3 := Kd.S_below (by (with_reducible repeat (first | apply Kd.S_alloc | apply Kd.S_drewN | apply Kd.S_drew)); exact hs3) hb; have hs4 := Kd.R_below (by (with_reducible repeat (first | apply Kd.R_alloc | apply Kd.R_drewN | apply Kd.R_drew)); exact hs4) hb; have hs5 := Kd.R_below (by (with_reducible repeat (first | apply Kd.R_alloc | apply Kd.R_drewN | apply Kd.R_drew)); exact hs5) hb; have hs6 := Kd.S_lower (Kd.S_mono (ok' := fun k_ => w5.heap.size ≤ k_ ∧ k_ < w6.heap.size) (Kd.S_bound ho) (fun k_ hk_ => ⟨hk_.2.1, hk_.2.2.1⟩)) (show w.heap.size ≤ w5.heap.size from HB.size); clear ho; have HB := below_step (by repeat (first | (with_reducible first | exact HB | apply below_alloc | apply pw_below_drewN | apply below_drew1) | exact HB)) hb; have hz6 : w5.heap.size ≤ w6.heap.size := hb.size; clear hb) | ((with_reducible refine gate_callee (f := 26) rfl ?_); refine goesL_ (some 32) rfl rfl Try.func26 (by kernel_rfl) rfl #[.slice A1 (l1).length c1] rfl (by (try simp only [List.map_toArray, List.map_cons, List.map_nil]); first | done | rfl | (rw [hl]; rfl) | (rw [← hl]; rfl)) ?_; (with_reducible refine (laws_toStringS.calls k _ _ (l1) (l1) _ ?side1 ?side2 hh4).mono ?_); (case side1 => repeat (first | exact Kd.C_below hr1 HB | (with_reducible refine Kd.C_alloc ?_ _) | (with_reducible refine Kd.C_drewN ?_ _) | (with_reducible refine Kd.C_drew ?_))); (case side2 => exact hc1); rintro e w7 ⟨v, rfl, ho, hb⟩; obtain ⟨A7, c7, rfl⟩ := Kd.R_slice ho; refine ⟨_, rfl, ?_⟩; have hs3 := Kd.S_below (by (with_reducible repeat (first | apply Kd.S_alloc | apply Kd.S_drewN | apply Kd.S_drew)); exact hs3) hb; have hs4 := Kd.R_below (by (with_reducible repeat (first | apply Kd.R_alloc | apply Kd.R_drewN | apply Kd.R_drew)); exact hs4) hb; have hs5 := Kd.R_below (by (with_reducible repeat (first | apply Kd.R_alloc | apply Kd.R_drewN | apply Kd.R_drew)); exact hs5) hb; have hs6 := Kd.S_below (by (with_reducible repeat (first | apply Kd.S_alloc | apply Kd.S_drewN | apply Kd.S_drew)); exact hs6) hb; have hs7 := Kd.R_lower (Kd.R_mono (ok' := fun k_ => w6.heap.size ≤ k_ ∧ k_ < w7.heap.size) (Kd.R_bound ho) (fun k_ hk_ => ⟨hk_.2.1, hk_.2.2.1⟩)) (show w.heap.size ≤ w6.heap.size from HB.size); clear ho; have HB := below_step (by repeat (first | (with_reducible first | exact HB | apply below_alloc | apply pw_below_drewN | apply below_drew1) | exact HB)) hb; have hz7 : w6.heap.size ≤ w7.heap.size := hb.size; clear hb) | ((with_reducible refine gate_callee (f := 27) rfl ?_); refine goesL_ (some 35) rfl rfl Try.func27 (by kernel_rfl) rfl #[.slice A6 (l0).length c6, .slice A7 (l1).length c7] rfl (by (try simp only [List.map_toArray, List.map_cons, List.map_nil]); first | done | rfl | (rw [hl]; rfl) | (rw [← hl]; rfl)) ?_; (with_reducible refine (impl_ApplyM.calls k _ _ (l0) _ _ (l1) (r) _ ?side1 ?side2 ?side3 ?side4 hh8).mono ?_); (case side1 => repeat (first | exact (Kd.S_reads' hs6).2.2 | (with_reducible refine Kd.C_alloc ?_ _) | (with_reducible refine Kd.C_drewN ?_ _) | (with_reducible refine Kd.C_drew ?_))); (case side2 => have h_ := (Kd.S_reads' hs6).2.1; have e_ := (Kd.S_reads' hs6).1; omega); (case side3 => repeat (first | exact (Kd.R_reads' hs7).2.2 | (with_reducible refine Kd.C_alloc ?_ _) | (with_reducible refine Kd.C_drewN ?_ _) | (with_reducible refine Kd.C_drew ?_))); (case side4 => have h_ := (Kd.R_reads' hs7).2.1; have e_ := (Kd.R_reads' hs7).1; omega); rintro e w8 ⟨v, rfl, ho, hb⟩; obtain ⟨A8, c8, rfl⟩ := Kd.R_slice ho; refine ⟨_, rfl, ?_⟩; have hs3 := Kd.S_below (by (with_reducible repeat (first | apply Kd.S_alloc | apply Kd.S_drewN | apply Kd.S_drew)); exact hs3) hb; have hs4 := Kd.R_below (by (with_reducible repeat (first | apply Kd.R_alloc | apply Kd.R_drewN | apply Kd.R_drew)); exact hs4) hb; have hs5 := Kd.R_below (by (with_reducible repeat (first | apply Kd.R_alloc | apply Kd.R_drewN | apply Kd.R_drew)); exact hs5) hb; have hs6 := Kd.S_below (by (with_reducible repeat (first | apply Kd.S_alloc | apply Kd.S_drewN | apply Kd.S_drew)); exact hs6) hb; have hs7 := Kd.R_below (by (with_reducible repeat (first | apply Kd.R_alloc | apply Kd.R_drewN | apply Kd.R_drew)); exact hs7) hb; have hs8 := Kd.R_lower (Kd.R_mono (ok' := fun k_ => w7.heap.size ≤ k_ ∧ k_ < w8.heap.size) (Kd.R_bound ho) (fun k_ hk_ => ⟨hk_.2.1, hk_.2.2.1⟩)) (show w.heap.size ≤ w7.heap.size from HB.size); clear ho; have HB := below_step (by repeat (first | (with_reducible first | exact HB | apply below_alloc | apply pw_below_drewN | apply below_drew1) | exact HB)) hb; have hz8 : w7.heap.size ≤ w8.heap.size := hb.size; clear hb) | ((with_reducible refine gate_callee (f := 28) rfl ?_); refine goesL_ (some 38) rfl rfl Try.func28 (by kernel_rfl) rfl #[.slice A8 (r).length c8, .slice A5 (r).length c5] rfl (by (try simp only [List.map_toArray, List.map_cons, List.map_nil]); first | done | rfl | (rw [hl]; rfl) | (rw [← hl]; rfl)) ?_; (with_reducible refine (laws_eqStringS.calls k _ _ (r) _ _ (r) (true) _ ?side1 ?side2 ?side3 ?side4 hh9).mono ?_); (case side1 => repeat (first | exact (Kd.R_reads' hs8).2.2 | (with_reducible refine Kd.C_alloc ?_ _) | (with_reducible refine Kd.C_drewN ?_ _) | (with_reducible refine Kd.C_drew ?_))); (case side2 => have h_ := (Kd.R_reads' hs8).2.1; have e_ := (Kd.R_reads' hs8).1; omega); (case side3 => repeat (first | exact (Kd.R_reads' hs5).2.2 | (with_reducible refine Kd.C_alloc ?_ _) | (with_reducible refine Kd.C_drewN ?_ _) | (with_reducible refine Kd.C_drew ?_))); (case side4 => have h_ := (Kd.R_reads' hs5).2.1; have e_ := (Kd.R_reads' hs5).1; omega); rintro e w9 ⟨rfl, hd⟩; refine ⟨_, rfl, ?_⟩; have hb := hd.below; have hs3 := Kd.S_below (by (with_reducible repeat (first | apply Kd.S_alloc | apply Kd.S_drewN | apply Kd.S_drew)); exact hs3) hb; have hs4 := Kd.R_below (by (with_reducible repeat (first | apply Kd.R_alloc | apply Kd.R_drewN | apply Kd.R_drew)); exact hs4) hb; have hs5 := Kd.R_below (by (with_reducible repeat (first | apply Kd.R_alloc | apply Kd.R_drewN | apply Kd.R_drew)); exact hs5) hb; have hs6 := Kd.S_below (by (with_reducible repeat (first | apply Kd.S_alloc | apply Kd.S_drewN | apply Kd.S_drew)); exact hs6) hb; have hs7 := Kd.R_below (by (with_reducible repeat (first | apply Kd.R_alloc | apply Kd.R_drewN | apply Kd.R_drew)); exact hs7) hb; have hs8 := Kd.R_below (by (with_reducible repeat (first | apply Kd.R_alloc | apply Kd.R_drewN | apply Kd.R_drew)); exact hs8) hb; have HB := below_step (by repeat (first | (with_reducible first | exact HB | apply below_alloc | apply pw_below_drewN | apply below_drew1) | exact HB)) hb; have hz9 : w8.heap.size ≤ w9.heap.size := hb.size; clear hb) | ((with_reducible refine gate_callee (f := 13) rfl ?_); refine goesL_ (some 42) rfl rfl Try.func13 (by kernel_rfl) rfl #[.slice A0 (l0).length c0] rfl (by (try simp only [List.map_toArray, List.map_cons, List.map_nil]); first | done | rfl | (rw [hl]; rfl) | (rw [← hl]; rfl)) ?_; (with_reducible refine (laws_toIntSS.calls k _ _ (l0) (l0) _ ?side1 ?side2 hh3).mono ?_); (case side1 => repeat (first | exact Kd.C_below hr0 HB | (with_reducible refine Kd.C_alloc ?_ _) | (with_reducible refine Kd.C_drewN ?_ _) | (with_reducible refine Kd.C_drew ?_))); (case side2 => exact hc0); rintro e w10 ⟨v, rfl, ho, hb⟩; obtain ⟨A10, c10, rfl⟩ := Kd.S_slice ho; refine ⟨_, rfl, ?_⟩; have hs3 := Kd.S_below (by (with_reducible repeat (first | apply Kd.S_alloc | apply Kd.S_drewN | apply Kd.S_drew)); exact hs3) hb; have hs4 := Kd.R_below (by (with_reducible repeat (first | apply Kd.R_alloc | apply Kd.R_drewN | apply Kd.R_drew)); exact hs4) hb; have hs5 := Kd.R_below (by (with_reducible repeat (first | apply Kd.R_alloc | apply Kd.R_drewN | apply Kd.R_drew)); exact hs5) hb; have hs6 := Kd.S_below (by (with_reducible repeat (first | apply Kd.S_alloc | apply Kd.S_drewN | apply Kd.S_drew)); exact hs6) hb; have hs7 := Kd.R_below (by (with_reducible repeat (first | apply Kd.R_alloc | apply Kd.R_drewN | apply Kd.R_drew)); exact hs7) hb; have hs8 := Kd.R_below (by (with_reducible repeat (first | apply Kd.R_alloc | apply Kd.R_drewN | apply Kd.R_drew)); exact hs8) hb; have hs10 := Kd.S_lower (Kd.S_mono (ok' := fun k_ => w9.heap.size ≤ k_ ∧ k_ < w10.heap.size) (Kd.S_bound ho) (fun k_ hk_ => ⟨hk_.2.1, hk_.2.2.1⟩)) (show w.heap.size ≤ w9.heap.size from HB.size); clear ho; have HB := below_step (by repeat (first | (with_reducible first | exact HB | apply below_alloc | apply pw_below_drewN | apply below_drew1) | exact HB)) hb; have hz10 : w9.heap.size ≤ w10.heap.size := hb.size; clear hb) | ((with_reducible refine gate_callee (f := 15) rfl ?_); refine goesL_ (some 43) rfl rfl Try.func15 (by kernel_rfl) rfl #[.slice A6 (l0).length c6, .slice A10 (l0).length c10] rfl (by (try simp only [List.map_toArray, List.map_cons, List.map_nil]); first | done | rfl | (rw [hl]; rfl) | (rw [← hl]; rfl)) ?_; (with_reducible refine (laws_eqIntSS.calls k _ _ (l0) _ _ (l0) (true) _ ?side1 ?side2 ?side3 ?side4 hh11).mono ?_); (case side1 => repeat (first | exact (Kd.S_reads' hs6).2.2 | (with_reducible refine Kd.C_alloc ?_ _) | (with_reducible refine Kd.C_drewN ?_ _) | (with_reducible refine Kd.C_drew ?_))); (case side2 => have h_ := (Kd.S_reads' hs6).2.1; have e_ := (Kd.S_reads' hs6).1; omega); (case side3 => repeat (first | exact (Kd.S_reads' hs10).2.2 | (with_reducible refine Kd.C_alloc ?_ _) | (with_reducible refine Kd.C_drewN ?_ _) | (with_reducible refine Kd.C_drew ?_))); (case side4 => have h_ := (Kd.S_reads' hs10).2.1; have e_ := (Kd.S_reads' hs10).1; omega); rintro e w11 ⟨rfl, hd⟩; refine ⟨_, rfl, ?_⟩; have hb := hd.below; have hs3 := Kd.S_below (by (with_reducible repeat (first | apply Kd.S_alloc | apply Kd.S_drewN | apply Kd.S_drew)); exact hs3) hb; have hs4 := Kd.R_below (by (with_reducible repeat (first | apply Kd.R_alloc | apply Kd.R_drewN | apply Kd.R_drew)); exact hs4) hb; have hs5 := Kd.R_below (by (with_reducible repeat (first | apply Kd.R_alloc | apply Kd.R_drewN | apply Kd.R_drew)); exact hs5) hb; have hs6 := Kd.S_below (by (with_reducible repeat (first | apply Kd.S_alloc | apply Kd.S_drewN | apply Kd.S_drew)); exact hs6) hb; have hs7 := Kd.R_below (by (with_reducible repeat (first | apply Kd.R_alloc | apply Kd.R_drewN | apply Kd.R_drew)); exact hs7) hb; have hs8 := Kd.R_below (by (with_reducible repeat (first | apply Kd.R_alloc | apply Kd.R_drewN | apply Kd.R_drew)); exact hs8) hb; have hs10 := Kd.S_below (by (with_reducible repeat (first | apply Kd.S_alloc | apply Kd.S_drewN | apply Kd.S_drew)); exact hs10) hb; have HB := below_step (by repeat (first | (with_reducible first | exact HB | apply below_alloc | apply pw_below_drewN | apply below_drew1) | exact HB)) hb; have hz11 : w10.heap.size ≤ w11.heap.size := hb.size; clear hb) | ((with_reducible refine gate_callee (f := 26) rfl ?_); refine goesL_ (some 47) rfl rfl Try.func26 (by kernel_rfl) rfl #[.slice A1 (l1).length c1] rfl (by (try simp only [List.map_toArray, List.map_cons, List.map_nil]); first | done | rfl | (rw [hl]; rfl) | (rw [← hl]; rfl)) ?_; (with_reducible refine (laws_toStringS.calls k _ _ (l1) (l1) _ ?side1 ?side2 hh4).mono ?_); (case side1 => repeat (first | exact Kd.C_below hr1 HB | (with_reducible refine Kd.C_alloc ?_ _) | (with_reducible refine Kd.C_drewN ?_ _) | (with_reducible refine Kd.C_drew ?_))); (case side2 => exact hc1); rintro e w12 ⟨v, rfl, ho, hb⟩; obtain ⟨A12, c12, rfl⟩ := Kd.R_slice ho; refine ⟨_, rfl, ?_⟩; have hs3 := Kd.S_below (by (with_reducible repeat (first | apply Kd.S_alloc | apply Kd.S_drewN | apply Kd.S_drew)); exact hs3) hb; have hs4 := Kd.R_below (by (with_reducible repeat (first | apply Kd.R_alloc | apply Kd.R_drewN | apply Kd.R_drew)); exact hs4) hb; have hs5 := Kd.R_below (by (with_reducible repeat (first | apply Kd.R_alloc | apply Kd.R_drewN | apply Kd.R_drew)); exact hs5) hb; have hs6 := Kd.S_below (by (with_reducible repeat (first | apply Kd.S_alloc | apply Kd.S_drewN | apply Kd.S_drew)); exact hs6) hb; have hs7 := Kd.R_below (by (with_reducible repeat (first | apply Kd.R_alloc | apply Kd.R_drewN | apply Kd.R_drew)); exact hs7) hb; have hs8 := Kd.R_below (by (with_reducible repeat (first | apply Kd.R_alloc | apply Kd.R_drewN | apply Kd.R_drew)); exact hs8) hb; have hs10 := Kd.S_below (by (with_reducible repeat (first | apply Kd.S_alloc | apply Kd.S_drewN | apply Kd.S_drew)); exact hs10) hb; have hs12 := Kd.R_lower (Kd.R_mono (ok' := fun k_ => w11.heap.size ≤ k_ ∧ k_ < w12.heap.size) (Kd.R_bound ho) (fun k_ hk_ => ⟨hk_.2.1, hk_.2.2.1⟩)) (show w.heap.size ≤ w11.heap.size from HB.size); clear ho; have HB := below_step (by repeat (first | (with_reducible first | exact HB | apply below_alloc | apply pw_below_drewN | apply below_drew1) | exact HB)) hb; have hz12 : w11.heap.size ≤ w12.heap.size := hb.size; clear hb) | ((with_reducible refine gate_callee (f := 28) rfl ?_); refine goesL_ (some 48) rfl rfl Try.func28 (by kernel_rfl) rfl #[.slice A7 (l1).length c7, .slice A12 (l1).length c12] rfl (by (try simp only [List.map_toArray, List.map_cons, List.map_nil]); first | done | rfl | (rw [hl]; rfl) | (rw [← hl]; rfl)) ?_; (with_reducible refine (laws_eqStringS.calls k _ _ (l1) _ _ (l1) (true) _ ?side1 ?side2 ?side3 ?side4 hh13).mono ?_); (case side1 => repeat (first | exact (Kd.R_reads' hs7).2.2 | (with_reducible refine Kd.C_alloc ?_ _) | (with_reducible refine Kd.C_drewN ?_ _) | (with_reducible refine Kd.C_drew ?_))); (case side2 => have h_ := (Kd.R_reads' hs7).2.1; have e_ := (Kd.R_reads' hs7).1; omega); (case side3 => repeat (first | exact (Kd.R_reads' hs12).2.2 | (with_reducible refine Kd.C_alloc ?_ _) | (with_reducible refine Kd.C_drewN ?_ _) | (with_reducible refine Kd.C_drew ?_))); (case side4 => have h_ := (Kd.R_reads' hs12).2.1; have e_ := (Kd.R_reads' hs12).1; omega); rintro e w13 ⟨rfl, hd⟩; refine ⟨_, rfl, ?_⟩; have hb := hd.below; have hs3 := Kd.S_below (by (with_reducible repeat (first | apply Kd.S_alloc | apply Kd.S_drewN | apply Kd.S_drew)); exact hs3) hb; have hs4 := Kd.R_below (by (with_reducible repeat (first | apply Kd.R_alloc | apply Kd.R_drewN | apply Kd.R_drew)); exact hs4) hb; have hs5 := Kd.R_below (by (with_reducible repeat (first | apply Kd.R_alloc | apply Kd.R_drewN | apply Kd.R_drew)); exact hs5) hb; have hs6 := Kd.S_below (by (with_reducible repeat (first | apply Kd.S_alloc | apply Kd.S_drewN | apply Kd.S_drew)); exact hs6) hb; have hs7 := Kd.R_below (by (with_reducible repeat (first | apply Kd.R_alloc | apply Kd.R_drewN | apply Kd.R_drew)); exact hs7) hb; have hs8 := Kd.R_below (by (with_reducible repeat (first | apply Kd.R_alloc | apply Kd.R_drewN | apply Kd.R_drew)); exact hs8) hb; have hs10 := Kd.S_below (by (with_reducible repeat (first | apply Kd.S_alloc | apply Kd.S_drewN | apply Kd.S_drew)); exact hs10) hb; have hs12 := Kd.R_below (by (with_reducible repeat (first | apply Kd.R_alloc | apply Kd.R_drewN | apply Kd.R_drew)); exact hs12) hb; have HB := below_step (by repeat (first | (with_reducible first | exact HB | apply below_alloc | apply pw_below_drewN | apply below_drew1) | exact HB)) hb; have hz13 : w12.heap.size ≤ w13.heap.size := hb.size; clear hb) | ((with_reducible refine gate_callee (f := 22) rfl ?_); refine goesL_ (some 52) rfl rfl Try.func22 (by kernel_rfl) rfl #[.slice A6 (l0).length c6, .int .i64 1] rfl (by (try simp only [List.map_toArray, List.map_cons, List.map_nil]); first | done | rfl | (rw [hl]; rfl) | (rw [← hl]; rfl)) ?_; (with_reducible refine (laws_markIntSS.calls k (fun k_ => w5.heap.size ≤ k_ ∧ k_ < w6.heap.size) (.slice A6 (l0).length c6) (l0) (1) (M1) (l0') w _ ?side1 ?side2 hh14).mono ?_); (case side1 => exact (by repeat (first | (with_reducible first | exact HB | apply below_alloc | apply pw_below_drewN | apply below_drew1) | exact HB))); (case side2 => (with_reducible repeat (first | apply Kd.S_alloc | apply Kd.S_drewN | apply Kd.S_drew)); exact hs6); rintro e w14 ⟨rfl, hm, hb, hkp⟩; refine ⟨_, rfl, ?_⟩; have hs3 := Kd.S_kept (by (with_reducible repeat (first | apply Kd.S_alloc | apply Kd.S_drewN | apply Kd.S_drew)); exact hs3) hkp (fun k_ hk_ hs_ => by have h1_ := hk_.1; have h2_ := hk_.2; have h3_ := hs_.1; have h4_ := hs_.2; omega); have hs4 := Kd.R_kept (by (with_reducible repeat (first | apply Kd.R_alloc | apply Kd.R_drewN | apply Kd.R_drew)); exact hs4) hkp (fun k_ hk_ hs_ => by have h1_ := hk_.1; have h2_ := hk_.2; have h3_ := hs_.1; have h4_ := hs_.2; omega); have hs5 := Kd.R_kept (by (with_reducible repeat (first | apply Kd.R_alloc | apply Kd.R_drewN | apply Kd.R_drew)); exact hs5) hkp (fun k_ hk_ hs_ => by have h1_ := hk_.1; have h2_ := hk_.2; have h3_ := hs_.1; have h4_ := hs_.2; omega); have hs7 := Kd.R_kept (by (with_reducible repeat (first | apply Kd.R_alloc | apply Kd.R_drewN | apply Kd.R_drew)); exact hs7) hkp (fun k_ hk_ hs_ => by have h1_ := hk_.1; have h2_ := hk_.2; have h3_ := hs_.1; have h4_ := hs_.2; omega); have hs8 := Kd.R_kept (by (with_reducible repeat (first | apply Kd.R_alloc | apply Kd.R_drewN | apply Kd.R_drew)); exact hs8) hkp (fun k_ hk_ hs_ => by have h1_ := hk_.1; have h2_ := hk_.2; have h3_ := hs_.1; have h4_ := hs_.2; omega); have hs10 := Kd.S_kept (by (with_reducible repeat (first | apply Kd.S_alloc | apply Kd.S_drewN | apply Kd.S_drew)); exact hs10) hkp (fun k_ hk_ hs_ => by have h1_ := hk_.1; have h2_ := hk_.2; have h3_ := hs_.1; have h4_ := hs_.2; omega); have hs12 := Kd.R_kept (by (with_reducible repeat (first | apply Kd.R_alloc | apply Kd.R_drewN | apply Kd.R_drew)); exact hs12) hkp (fun k_ hk_ hs_ => by have h1_ := hk_.1; have h2_ := hk_.2; have h3_ := hs_.1; have h4_ := hs_.2; omega); have hs6 := hm; have HB := hb; have hz14 : w13.heap.size ≤ w14.heap.size := hkp.1; clear hm hb hkp) | ((with_reducible refine gate_callee (f := 29) rfl ?_); refine goesL_ (some 55) rfl rfl Try.func29 (by kernel_rfl) rfl #[.slice A7 (l1).length c7, .int .i64 (M1)] rfl (by (try simp only [List.map_toArray, List.map_cons, List.map_nil]); first | done | rfl | (rw [hl]; rfl) | (rw [← hl]; rfl)) ?_; (with_reducible refine (laws_markStringS.calls k (fun k_ => w6.heap.size ≤ k_ ∧ k_ < w7.heap.size) (.slice A7 (l1).length c7) (l1) (M1) (M2) (l1') w _ ?side1 ?side2 hh15).mono ?_); (case side1 => exact (by repeat (first | (with_reducible first | exact HB | apply below_alloc | apply pw_below_drewN | apply below_drew1) | exact HB))); (case side2 => (with_reducible repeat (first | apply Kd.R_alloc | apply Kd.R_drewN | apply Kd.R_drew)); exact hs7); rintro e w15 ⟨rfl, hm, hb, hkp⟩; refine ⟨_, rfl, ?_⟩; have hs3 := Kd.S_kept (by (with_reducible repeat (first | apply Kd.S_alloc | apply Kd.S_drewN | apply Kd.S_drew)); exact hs3) hkp (fun k_ hk_ hs_ => by have h1_ := hk_.1; have h2_ := hk_.2; have h3_ := hs_.1; have h4_ := hs_.2; omega); have hs4 := Kd.R_kept (by (with_reducible repeat (first | apply Kd.R_alloc | apply Kd.R_drewN | apply Kd.R_drew)); exact hs4) hkp (fun k_ hk_ hs_ => by have h1_ := hk_.1; have h2_ := hk_.2; have h3_ := hs_.1; have h4_ := hs_.2; omega); have hs5 := Kd.R_kept (by (with_reducible repeat (first | apply Kd.R_alloc | apply Kd.R_drewN | apply Kd.R_drew)); exact hs5) hkp (fun k_ hk_ hs_ => by have h1_ := hk_.1; have h2_ := hk_.2; have h3_ := hs_.1; have h4_ := hs_.2; omega); have hs6 := Kd.S_kept (by (with_reducible repeat (first | apply Kd.S_alloc | apply Kd.S_drewN | apply Kd.S_drew)); exact hs6) hkp (fun k_ hk_ hs_ => by have h1_ := hk_.1; have h2_ := hk_.2; have h3_ := hs_.1; have h4_ := hs_.2; omega); have hs8 := Kd.R_kept (by (with_reducible repeat (first | apply Kd.R_alloc | apply Kd.R_drewN | apply Kd.R_drew)); exact hs8) hkp (fun k_ hk_ hs_ => by have h1_ := hk_.1; have h2_ := hk_.2; have h3_ := hs_.1; have h4_ := hs_.2; omega); have hs10 := Kd.S_kept (by (with_reducible repeat (first | apply Kd.S_alloc | apply Kd.S_drewN | apply Kd.S_drew)); exact hs10) hkp (fun k_ hk_ hs_ => by have h1_ := hk_.1; have h2_ := hk_.2; have h3_ := hs_.1; have h4_ := hs_.2; omega); have hs12 := Kd.R_kept (by (with_reducible repeat (first | apply Kd.R_alloc | apply Kd.R_drewN | apply Kd.R_drew)); exact hs12) hkp (fun k_ hk_ hs_ => by have h1_ := hk_.1; have h2_ := hk_.2; have h3_ := hs_.1; have h4_ := hs_.2; omega); have hs7 := Kd.R_reok (ok := fun k_ => w6.heap.size ≤ k_ ∧ k_ < w7.heap.size) rfl hm (fun k_ e_ => hs7.1 k_ e_); have HB := hb; have hz15 : w14.heap.size ≤ w15.heap.size := hkp.1; clear hm hb hkp) | (go_at_call 28; (with_reducible refine (laws_eqStringS.calls k _ _ (r) _ _ (r) (true) _ ?side1 ?side2 ?side3 ?side4 hh9).mono ?_); (case side1 => repeat (first | exact (Kd.R_reads' hs8).2.2 | (with_reducible refine Kd.C_alloc ?_ _) | (with_reducible refine Kd.C_drewN ?_ _) | (with_reducible refine Kd.C_drew ?_))); (case side2 => have h_ := (Kd.R_reads' hs8).2.1; have e_ := (Kd.R_reads' hs8).1; omega); (case side3 => repeat (first | exact (Kd.R_reads' hs5).2.2 | (with_reducible refine Kd.C_alloc ?_ _) | (with_reducible refine Kd.C_drewN ?_ _) | (with_reducible refine Kd.C_drew ?_))); (case side4 => have h_ := (Kd.R_reads' hs5).2.1; have e_ := (Kd.R_reads' hs5).1; omega); rintro e w16 ⟨rfl, hd⟩; have hb := hd.below; have hs3 := Kd.S_below (by (with_reducible repeat (first | apply Kd.S_alloc | apply Kd.S_drewN | apply Kd.S_drew)); exact hs3) hb; have hs4 := Kd.R_below (by (with_reducible repeat (first | apply Kd.R_alloc | apply Kd.R_drewN | apply Kd.R_drew)); exact hs4) hb; have hs5 := Kd.R_below (by (with_reducible repeat (first | apply Kd.R_alloc | apply Kd.R_drewN | apply Kd.R_drew)); exact hs5) hb; have hs6 := Kd.S_below (by (with_reducible repeat (first | apply Kd.S_alloc | apply Kd.S_drewN | apply Kd.S_drew)); exact hs6) hb; have hs7 := Kd.R_below (by (with_reducible repeat (first | apply Kd.R_alloc | apply Kd.R_drewN | apply Kd.R_drew)); exact hs7) hb; have hs8 := Kd.R_below (by (with_reducible repeat (first | apply Kd.R_alloc | apply Kd.R_drewN | apply Kd.R_drew)); exact hs8) hb; have hs10 := Kd.S_below (by (with_reducible repeat (first | apply Kd.S_alloc | apply Kd.S_drewN | apply Kd.S_drew)); exact hs10) hb; have hs12 := Kd.R_below (by (with_reducible repeat (first | apply Kd.R_alloc | apply Kd.R_drewN | apply Kd.R_drew)); exact hs12) hb; have HB := below_step (by repeat (first | (with_reducible first | exact HB | apply below_alloc | apply pw_below_drewN | apply below_drew1) | exact HB)) hb; have hz16 : w15.heap.size ≤ w16.heap.size := hb.size; clear hb) | ((with_reducible refine gate_callee (f := 29) rfl ?_); refine goesL_ (some 66) rfl rfl Try.func29 (by kernel_rfl) rfl #[.slice A8 (r).length c8, .int .i64 1] rfl (by (try simp only [List.map_toArray, List.map_cons, List.map_nil]); first | done | rfl | (rw [hl]; rfl) | (rw [← hl]; rfl)) ?_; (with_reducible refine (laws_markStringS.calls k (fun k_ => w7.heap.size ≤ k_ ∧ k_ < w8.heap.size) (.slice A8 (r).length c8) (r) (1) (M) (r') w _ ?side1 ?side2 hh17).mono ?_); (case side1 => exact (by repeat (first | (with_reducible first | exact HB | apply below_alloc | apply pw_below_drewN | apply below_drew1) | exact HB))); (case side2 => (with_reducible repeat (first | apply Kd.R_alloc | apply Kd.R_drewN | apply Kd.R_drew)); exact hs8); rintro e w17 ⟨rfl, hm, hb, hkp⟩; refine ⟨_, rfl, ?_⟩; have hs3 := Kd.S_kept (by (with_reducible repeat (first | apply Kd.S_alloc | apply Kd.S_drewN | apply Kd.S_drew)); exact hs3) hkp (fun k_ hk_ hs_ => by have h1_ := hk_.1; have h2_ := hk_.2; have h3_ := hs_.1; have h4_ := hs_.2; omega); have hs4 := Kd.R_kept (by (with_reducible repeat (first | apply Kd.R_alloc | apply Kd.R_drewN | apply Kd.R_drew)); exact hs4) hkp (fun k_ hk_ hs_ => by have h1_ := hk_.1; have h2_ := hk_.2; have h3_ := hs_.1; have h4_ := hs_.2; omega); have hs5 := Kd.R_kept (by (with_reducible repeat (first | apply Kd.R_alloc | apply Kd.R_drewN | apply Kd.R_drew)); exact hs5) hkp (fun k_ hk_ hs_ => by have h1_ := hk_.1; have h2_ := hk_.2; have h3_ := hs_.1; have h4_ := hs_.2; omega); have hs6 := Kd.S_kept (by (with_reducible repeat (first | apply Kd.S_alloc | apply Kd.S_drewN | apply Kd.S_drew)); exact hs6) hkp (fun k_ hk_ hs_ => by have h1_ := hk_.1; have h2_ := hk_.2; have h3_ := hs_.1; have h4_ := hs_.2; omega); have hs7 := Kd.R_kept (by (with_reducible repeat (first | apply Kd.R_alloc | apply Kd.R_drewN | apply Kd.R_drew)); exact hs7) hkp (fun k_ hk_ hs_ => by have h1_ := hk_.1; have h2_ := hk_.2; have h3_ := hs_.1; have h4_ := hs_.2; omega); have hs10 := Kd.S_kept (by (with_reducible repeat (first | apply Kd.S_alloc | apply Kd.S_drewN | apply Kd.S_drew)); exact hs10) hkp (fun k_ hk_ hs_ => by have h1_ := hk_.1; have h2_ := hk_.2; have h3_ := hs_.1; have h4_ := hs_.2; omega); have hs12 := Kd.R_kept (by (with_reducible repeat (first | apply Kd.R_alloc | apply Kd.R_drewN | apply Kd.R_drew)); exact hs12) hkp (fun k_ hk_ hs_ => by have h1_ := hk_.1; have h2_ := hk_.2; have h3_ := hs_.1; have h4_ := hs_.2; omega); have hs8 := Kd.R_reok (ok := fun k_ => w7.heap.size ≤ k_ ∧ k_ < w8.heap.size) rfl hm (fun k_ e_ => hs8.1 k_ e_); have HB := hb; have hz17 : w16.heap.size ≤ w17.heap.size := hkp.1; clear hm hb hkp) | ((with_reducible refine gate_callee (f := 30) rfl ?_); refine goesL_ (some 69) rfl rfl Try.func30 (by kernel_rfl) rfl #[.slice A8 (r').length c8, .int .i64 1] rfl (by (try simp only [List.map_toArray, List.map_cons, List.map_nil]); first | done | rfl | (rw [hl]; rfl) | (rw [← hl]; rfl)) ?_; (with_reducible refine (laws_heldStringS.calls k _ _ (r') (1) (M) _ ?side1 ?side2 hh18).mono ?_); (case side1 => repeat (first | exact (Kd.R_reads' hs8).2.2 | (with_reducible refine Kd.C_alloc ?_ _) | (with_reducible refine Kd.C_drewN ?_ _) | (with_reducible refine Kd.C_drew ?_))); (case side2 => have h_ := (Kd.R_reads' hs8).2.1; have e_ := (Kd.R_reads' hs8).1; omega); rintro e w18 ⟨rfl, hd⟩; refine ⟨_, rfl, ?_⟩; have hb := hd; have hs3 := Kd.S_below (by (with_reducible repeat (first | apply Kd.S_alloc | apply Kd.S_drewN | apply Kd.S_drew)); exact hs3) hb; have hs4 := Kd.R_below (by (with_reducible repeat (first | apply Kd.R_alloc | apply Kd.R_drewN | apply Kd.R_drew)); exact hs4) hb; have hs5 := Kd.R_below (by (with_reducible repeat (first | apply Kd.R_alloc | apply Kd.R_drewN | apply Kd.R_drew)); exact hs5) hb; have hs6 := Kd.S_below (by (with_reducible repeat (first | apply Kd.S_alloc | apply Kd.S_drewN | apply Kd.S_drew)); exact hs6) hb; have hs7 := Kd.R_below (by (with_reducible repeat (first | apply Kd.R_alloc | apply Kd.R_drewN | apply Kd.R_drew)); exact hs7) hb; have hs8 := Kd.R_below (by (with_reducible repeat (first | apply Kd.R_alloc | apply Kd.R_drewN | apply Kd.R_drew)); exact hs8) hb; have hs10 := Kd.S_below (by (with_reducible repeat (first | apply Kd.S_alloc | apply Kd.S_drewN | apply Kd.S_drew)); exact hs10) hb; have hs12 := Kd.R_below (by (with_reducible repeat (first | apply Kd.R_alloc | apply Kd.R_drewN | apply Kd.R_drew)); exact hs12) hb; have HB := below_step (by repeat (first | (with_reducible first | exact HB | apply below_alloc | apply pw_below_drewN | apply below_drew1) | exact HB)) hb; have hz18 : w17.heap.size ≤ w18.heap.size := hb.size; clear hb) | ((with_reducible refine gate_callee (f := 13) rfl ?_); refine goesL_ (some 76) rfl rfl Try.func13 (by kernel_rfl) rfl #[.slice A0 (l0).length c0] rfl (by (try simp only [List.map_toArray, List.map_cons, List.map_nil]); first | done | rfl | (rw [hl]; rfl) | (rw [← hl]; rfl)) ?_; (with_reducible refine (laws_toIntSS.calls k _ _ (l0) (l0) _ ?side1 ?side2 hh3).mono ?_); (case side1 => repeat (first | exact Kd.C_below hr0 HB | (with_reducible refine Kd.C_alloc ?_ _) | (with_reducible refine Kd.C_drewN ?_ _) | (with_reducible refine Kd.C_drew ?_))); (case side2 => exact hc0); rintro e w19 ⟨v, rfl, ho, hb⟩; obtain ⟨A19, c19, rfl⟩ := Kd.S_slice ho; refine ⟨_, rfl, ?_⟩; have hs3 := Kd.S_below (by (with_reducible repeat (first | apply Kd.S_alloc | apply Kd.S_drewN | apply Kd.S_drew)); exact hs3) hb; have hs4 := Kd.R_below (by (with_reducible repeat (first | apply Kd.R_alloc | apply Kd.R_drewN | apply Kd.R_drew)); exact hs4) hb; have hs5 := Kd.R_below (by (with_reducible repeat (first | apply Kd.R_alloc | apply Kd.R_drewN | apply Kd.R_drew)); exact hs5) hb; have hs6 := Kd.S_below (by (with_reducible repeat (first | apply Kd.S_alloc | apply Kd.S_drewN | apply Kd.S_drew)); exact hs6) hb; have hs7 := Kd.R_below (by (with_reducible repeat (first | apply Kd.R_alloc | apply Kd.R_drewN | apply Kd.R_drew)); exact hs7) hb; have hs8 := Kd.R_below (by (with_reducible repeat (first | apply Kd.R_alloc | apply Kd.R_drewN | apply Kd.R_drew)); exact hs8) hb; have hs10 := Kd.S_below (by (with_reducible repeat (first | apply Kd.S_alloc | apply Kd.S_drewN | apply Kd.S_drew)); exact hs10) hb; have hs12 := Kd.R_below (by (with_reducible repeat (first | apply Kd.R_alloc | apply Kd.R_drewN | apply Kd.R_drew)); exact hs12) hb; have hs19 := Kd.S_lower (Kd.S_mono (ok' := fun k_ => w18.heap.size ≤ k_ ∧ k_ < w19.heap.size) (Kd.S_bound ho) (fun k_ hk_ => ⟨hk_.2.1, hk_.2.2.1⟩)) (show w.heap.size ≤ w18.heap.size from HB.size); clear ho; have HB := below_step (by repeat (first | (with_reducible first | exact HB | apply below_alloc | apply pw_below_drewN | apply below_drew1) | exact HB)) hb; have hz19 : w18.heap.size ≤ w19.heap.size := hb.size; clear hb) | ((with_reducible refine gate_callee (f := 26) rfl ?_); refine goesL_ (some 78) rfl rfl Try.func26 (by kernel_rfl) rfl #[.slice A1 (l1).length c1] rfl (by (try simp only [List.map_toArray, List.map_cons, List.map_nil]); first | done | rfl | (rw [hl]; rfl) | (rw [← hl]; rfl)) ?_; (with_reducible refine (laws_toStringS.calls k _ _ (l1) (l1) _ ?side1 ?side2 hh4).mono ?_); (case side1 => repeat (first | exact Kd.C_below hr1 HB | (with_reducible refine Kd.C_alloc ?_ _) | (with_reducible refine Kd.C_drewN ?_ _) | (with_reducible refine Kd.C_drew ?_))); (case side2 => exact hc1); rintro e w20 ⟨v, rfl, ho, hb⟩; obtain ⟨A20, c20, rfl⟩ := Kd.R_slice ho; refine ⟨_, rfl, ?_⟩; have hs3 := Kd.S_below (by (with_reducible repeat (first | apply Kd.S_alloc | apply Kd.S_drewN | apply Kd.S_drew)); exact hs3) hb; have hs4 := Kd.R_below (by (with_reducible repeat (first | apply Kd.R_alloc | apply Kd.R_drewN | apply Kd.R_drew)); exact hs4) hb; have hs5 := Kd.R_below (by (with_reducible repeat (first | apply Kd.R_alloc | apply Kd.R_drewN | apply Kd.R_drew)); exact hs5) hb; have hs6 := Kd.S_below (by (with_reducible repeat (first | apply Kd.S_alloc | apply Kd.S_drewN | apply Kd.S_drew)); exact hs6) hb; have hs7 := Kd.R_below (by (with_reducible repeat (first | apply Kd.R_alloc | apply Kd.R_drewN | apply Kd.R_drew)); exact hs7) hb; have hs8 := Kd.R_below (by (with_reducible repeat (first | apply Kd.R_alloc | apply Kd.R_drewN | apply Kd.R_drew)); exact hs8) hb; have hs10 := Kd.S_below (by (with_reducible repeat (first | apply Kd.S_alloc | apply Kd.S_drewN | apply Kd.S_drew)); exact hs10) hb; have hs12 := Kd.R_below (by (with_reducible repeat (first | apply Kd.R_alloc | apply Kd.R_drewN | apply Kd.R_drew)); exact hs12) hb; have hs19 := Kd.S_below (by (with_reducible repeat (first | apply Kd.S_alloc | apply Kd.S_drewN | apply Kd.S_drew)); exact hs19) hb; have hs20 := Kd.R_lower (Kd.R_mono (ok' := fun k_ => w19.heap.size ≤ k_ ∧ k_ < w20.heap.size) (Kd.R_bound ho) (fun k_ hk_ => ⟨hk_.2.1, hk_.2.2.1⟩)) (show w.heap.size ≤ w19.heap.size from HB.size); clear ho; have HB := below_step (by repeat (first | (with_reducible first | exact HB | apply below_alloc | apply pw_below_drewN | apply below_drew1) | exact HB)) hb; have hz20 : w19.heap.size ≤ w20.heap.size := hb.size; clear hb) | ((with_reducible refine gate_callee (f := 27) rfl ?_); refine goesL_ (some 79) rfl rfl Try.func27 (by kernel_rfl) rfl #[.slice A19 (l0).length c19, .slice A20 (l1).length c20] rfl (by (try simp only [List.map_toArray, List.map_cons, List.map_nil]); first | done | rfl | (rw [hl]; rfl) | (rw [← hl]; rfl)) ?_; (with_reducible refine (impl_ApplyM.calls k _ _ (l0) _ _ (l1) (r) _ ?side1 ?side2 ?side3 ?side4 hh8).mono ?_); (case side1 => repeat (first | exact (Kd.S_reads' hs19).2.2 | (with_reducible refine Kd.C_alloc ?_ _) | (with_reducible refine Kd.C_drewN ?_ _) | (with_reducible refine Kd.C_drew ?_))); (case side2 => have h_ := (Kd.S_reads' hs19).2.1; have e_ := (Kd.S_reads' hs19).1; omega); (case side3 => repeat (first | exact (Kd.R_reads' hs20).2.2 | (with_reducible refine Kd.C_alloc ?_ _) | (with_reducible refine Kd.C_drewN ?_ _) | (with_reducible refine Kd.C_drew ?_))); (case side4 => have h_ := (Kd.R_reads' hs20).2.1; have e_ := (Kd.R_reads' hs20).1; omega); rintro e w21 ⟨v, rfl, ho, hb⟩; obtain ⟨A21, c21, rfl⟩ := Kd.R_slice ho; refine ⟨_, rfl, ?_⟩; have hs3 := Kd.S_below (by (with_reducible repeat (first | apply Kd.S_alloc | apply Kd.S_drewN | apply Kd.S_drew)); exact hs3) hb; have hs4 := Kd.R_below (by (with_reducible repeat (first | apply Kd.R_alloc | apply Kd.R_drewN | apply Kd.R_drew)); exact hs4) hb; have hs5 := Kd.R_below (by (with_reducible repeat (first | apply Kd.R_alloc | apply Kd.R_drewN | apply Kd.R_drew)); exact hs5) hb; have hs6 := Kd.S_below (by (with_reducible repeat (first | apply Kd.S_alloc | apply Kd.S_drewN | apply Kd.S_drew)); exact hs6) hb; have hs7 := Kd.R_below (by (with_reducible repeat (first | apply Kd.R_alloc | apply Kd.R_drewN | apply Kd.R_drew)); exact hs7) hb; have hs8 := Kd.R_below (by (with_reducible repeat (first | apply Kd.R_alloc | apply Kd.R_drewN | apply Kd.R_drew)); exact hs8) hb; have hs10 := Kd.S_below (by (with_reducible repeat (first | apply Kd.S_alloc | apply Kd.S_drewN | apply Kd.S_drew)); exact hs10) hb; have hs12 := Kd.R_below (by (with_reducible repeat (first | apply Kd.R_alloc | apply Kd.R_drewN | apply Kd.R_drew)); exact hs12) hb; have hs19 := Kd.S_below (by (with_reducible repeat (first | apply Kd.S_alloc | apply Kd.S_drewN | apply Kd.S_drew)); exact hs19) hb; have hs20 := Kd.R_below (by (with_reducible repeat (first | apply Kd.R_alloc | apply Kd.R_drewN | apply Kd.R_drew)); exact hs20) hb; have hs21 := Kd.R_lower (Kd.R_mono (ok' := fun k_ => w20.heap.size ≤ k_ ∧ k_ < w21.heap.size) (Kd.R_bound ho) (fun k_ hk_ => ⟨hk_.2.1, hk_.2.2.1⟩)) (show w.heap.size ≤ w20.heap.size from HB.size); clear ho; have HB := below_step (by repeat (first | (with_reducible first | exact HB | apply below_alloc | apply pw_below_drewN | apply below_drew1) | exact HB)) hb; have hz21 : w20.heap.size ≤ w21.heap.size := hb.size; clear hb) | ((with_reducible refine gate_callee (f := 28) rfl ?_); refine goesL_ (some 82) rfl rfl Try.func28 (by kernel_rfl) rfl #[.slice A21 (r).length c21, .slice A5 (r).length c5] rfl (by (try simp only [List.map_toArray, List.map_cons, List.map_nil]); first | done | rfl | (rw [hl]; rfl) | (rw [← hl]; rfl)) ?_; (with_reducible refine (laws_eqStringS.calls k _ _ (r) _ _ (r) (true) _ ?side1 ?side2 ?side3 ?side4 hh9).mono ?_); (case side1 => repeat (first | exact (Kd.R_reads' hs21).2.2 | (with_reducible refine Kd.C_alloc ?_ _) | (with_reducible refine Kd.C_drewN ?_ _) | (with_reducible refine Kd.C_drew ?_))); (case side2 => have h_ := (Kd.R_reads' hs21).2.1; have e_ := (Kd.R_reads' hs21).1; omega); (case side3 => repeat (first | exact (Kd.R_reads' hs5).2.2 | (with_reducible refine Kd.C_alloc ?_ _) | (with_reducible refine Kd.C_drewN ?_ _) | (with_reducible refine Kd.C_drew ?_))); (case side4 => have h_ := (Kd.R_reads' hs5).2.1; have e_ := (Kd.R_reads' hs5).1; omega); rintro e w22 ⟨rfl, hd⟩; refine ⟨_, rfl, ?_⟩; have hb := hd.below; have hs3 := Kd.S_below (by (with_reducible repeat (first | apply Kd.S_alloc | apply Kd.S_drewN | apply Kd.S_drew)); exact hs3) hb; have hs4 := Kd.R_below (by (with_reducible repeat (first | apply Kd.R_alloc | apply Kd.R_drewN | apply Kd.R_drew)); exact hs4) hb; have hs5 := Kd.R_below (by (with_reducible repeat (first | apply Kd.R_alloc | apply Kd.R_drewN | apply Kd.R_drew)); exact hs5) hb; have hs6 := Kd.S_below (by (with_reducible repeat (first | apply Kd.S_alloc | apply Kd.S_drewN | apply Kd.S_drew)); exact hs6) hb; have hs7 := Kd.R_below (by (with_reducible repeat (first | apply Kd.R_alloc | apply Kd.R_drewN | apply Kd.R_drew)); exact hs7) hb; have hs8 := Kd.R_below (by (with_reducible repeat (first | apply Kd.R_alloc | apply Kd.R_drewN | apply Kd.R_drew)); exact hs8) hb; have hs10 := Kd.S_below (by (with_reducible repeat (first | apply Kd.S_alloc | apply Kd.S_drewN | apply Kd.S_drew)); exact hs10) hb; have hs12 := Kd.R_below (by (with_reducible repeat (first | apply Kd.R_alloc | apply Kd.R_drewN | apply Kd.R_drew)); exact hs12) hb; have hs19 := Kd.S_below (by (with_reducible repeat (first | apply Kd.S_alloc | apply Kd.S_drewN | apply Kd.S_drew)); exact hs19) hb; have hs20 := Kd.R_below (by (with_reducible repeat (first | apply Kd.R_alloc | apply Kd.R_drewN | apply Kd.R_drew)); exact hs20) hb; have hs21 := Kd.R_below (by (with_reducible repeat (first | apply Kd.R_alloc | apply Kd.R_drewN | apply Kd.R_drew)); exact hs21) hb; have HB := below_step (by repeat (first | (with_reducible first | exact HB | apply below_alloc | apply pw_below_drewN | apply below_drew1) | exact HB)) hb; have hz22 : w21.heap.size ≤ w22.heap.size := hb.size; clear hb) | ((with_reducible refine gate_callee (f := 30) rfl ?_); refine goesL_ (some 86) rfl rfl Try.func30 (by kernel_rfl) rfl #[.slice A8 (r').length c8, .int .i64 1] rfl (by (try simp only [List.map_toArray, List.map_cons, List.map_nil]); first | done | rfl | (rw [hl]; rfl) | (rw [← hl]; rfl)) ?_; (with_reducible refine (laws_heldStringS.calls k _ _ (r') (1) (M) _ ?side1 ?side2 hh18).mono ?_); (case side1 => repeat (first | exact (Kd.R_reads' hs8).2.2 | (with_reducible refine Kd.C_alloc ?_ _) | (with_reducible refine Kd.C_drewN ?_ _) | (with_reducible refine Kd.C_drew ?_))); (case side2 => have h_ := (Kd.R_reads' hs8).2.1; have e_ := (Kd.R_reads' hs8).1; omega); rintro e w23 ⟨rfl, hd⟩; refine ⟨_, rfl, ?_⟩; have hb := hd; have hs3 := Kd.S_below (by (with_reducible repeat (first | apply Kd.S_alloc | apply Kd.S_drewN | apply Kd.S_drew)); exact hs3) hb; have hs4 := Kd.R_below (by (with_reducible repeat (first | apply Kd.R_alloc | apply Kd.R_drewN | apply Kd.R_drew)); exact hs4) hb; have hs5 := Kd.R_below (by (with_reducible repeat (first | apply Kd.R_alloc | apply Kd.R_drewN | apply Kd.R_drew)); exact hs5) hb; have hs6 := Kd.S_below (by (with_reducible repeat (first | apply Kd.S_alloc | apply Kd.S_drewN | apply Kd.S_drew)); exact hs6) hb; have hs7 := Kd.R_below (by (with_reducible repeat (first | apply Kd.R_alloc | apply Kd.R_drewN | apply Kd.R_drew)); exact hs7) hb; have hs8 := Kd.R_below (by (with_reducible repeat (first | apply Kd.R_alloc | apply Kd.R_drewN | apply Kd.R_drew)); exact hs8) hb; have hs10 := Kd.S_below (by (with_reducible repeat (first | apply Kd.S_alloc | apply Kd.S_drewN | apply Kd.S_drew)); exact hs10) hb; have hs12 := Kd.R_below (by (with_reducible repeat (first | apply Kd.R_alloc | apply Kd.R_drewN | apply Kd.R_drew)); exact hs12) hb; have hs19 := Kd.S_below (by (with_reducible repeat (first | apply Kd.S_alloc | apply Kd.S_drewN | apply Kd.S_drew)); exact hs19) hb; have hs20 := Kd.R_below (by (with_reducible repeat (first | apply Kd.R_alloc | apply Kd.R_drewN | apply Kd.R_drew)); exact hs20) hb; have hs21 := Kd.R_below (by (with_reducible repeat (first | apply Kd.R_alloc | apply Kd.R_drewN | apply Kd.R_drew)); exact hs21) hb; have HB := below_step (by repeat (first | (with_reducible first | exact HB | apply below_alloc | apply pw_below_drewN | apply below_drew1) | exact HB)) hb; have hz23 : w22.heap.size ≤ w23.heap.size := hb.size; clear hb))
  go_ret
  exact ⟨rfl, by repeat (first | (with_reducible first | exact HB | apply below_alloc | apply pw_below_drewN | apply below_drew1) | exact HB)⟩


theorem FnExactApplyM (A0 : Option Addr) (c0 : Nat) (l0 : List (List Int)) (A1 : Option Addr) (c1 : Nat) (l1 : List ByteArray) (hw0 : (Wide.WfList (Wide.WfList (Wide.WfInt .i64))) l0) (hw1 : (Wide.WfList Wide.WfStr) l1) (w : World)
    (hr0 : Kd.C (Kd.slice 3 (Kd.int .i64)) w A0 l0.length l0) (hc0 : l0.length ≤ c0) (hr1 : Kd.C Kd.string w A1 l1.length l1) (hc1 : l1.length ≤ c1) :
    Calls Try.prog 6 #[.slice A0 l0.length c0, .slice A1 l1.length c1] w fun e w' => e = .returned (.bool true) ∧ Below w.heap.size w w' := by
  obtain ⟨R1, ⟨k1, q1⟩, p1⟩ := szIntSS_sum l0 hw0.1 (fun y hy => (hw0.2 y hy).1) 1048576 (by omega) (by omega)
  rcases p1 with c | ⟨a1, a2⟩
  · exact FnExactApplyM_walkA k1 A0 c0 l0 A1 c1 l1 R1 w hr0 hc0 (decide_eq_true c) (q1 _ (Nat.le_refl _))
  obtain ⟨R2, ⟨k2, q2⟩, p2⟩ := szStrS_ex l1 hw1.1 (fun y hy => hw1.2 y hy) R1 a1 (by omega)
  rcases p2 with c | ⟨b1, b2, b3, b4⟩
  · exact FnExactApplyM_walkB (k1 + k2) A0 c0 l0 A1 c1 l1 R1 R2 w hr0 hc0 hr1 hc1 (decide_eq_false (by omega)) (decide_eq_true c) (q1 _ (by omega)) (q2 _ (by omega))
  have h0 : ∀ n : Nat, 1048576 ≤ n → ∀ x ∈ l0, x.length ≤ n := fun n hn x hx => by
    have := len_le_sum x hx
    omega
  have h1 : ∀ x ∈ l1, x.size ≤ 1073741824 := fun x hx => by
    have := b4 x hx
    omega
  have z1 := applyR_size l0 l1
  obtain ⟨T, hT⟩ := markText_fun
  obtain ⟨k3, q3⟩ := toIntSS_ev l0 (by omega) (h0 _ (by omega)) (by omega)
  obtain ⟨k4, q4⟩ := toStrS_ev l1 (by omega)
  obtain ⟨k5, q5⟩ := spec_ApplyM_ev l0 l1 (by omega) (h0 _ (by omega)) h1
  obtain ⟨k6, q6⟩ := impl_ApplyM_ev l0 l1 (by omega) (h0 _ (by omega)) h1
  obtain ⟨k7, q7⟩ := eqS_ev (applyR l0 l1) (by omega)
  obtain ⟨k8, q8⟩ := eqIntSS_ev l0 (by omega) (h0 _ (by omega))
  obtain ⟨k9, q9⟩ := eqS_ev l1 (by omega)
  obtain ⟨k10, q10⟩ := markSS_ev l0 1 (by omega) (by omega)
  obtain ⟨k11, q11⟩ := markS_ev T hT l1 (1 + sumLen l0) (by omega)
  obtain ⟨k12, q12⟩ := markS_ev T hT (applyR l0 l1) 1 (by omega)
  obtain ⟨k13, q13⟩ := heldS_ev T hT (applyR l0 l1).length 1 (by omega)
  exact FnExactApplyM_walkC (k1 + k2 + k3 + k4 + k5 + k6 + k7 + k8 + k9 + k10 + k11 + k12 + k13) A0 c0 l0 A1 c1 l1 R1 R2 (mrows l0 1) (applyR l0 l1) (marked T (1 + sumLen l0) l1.length) (marked T 1 (applyR l0 l1).length) ((1 + sumLen l0 : Nat) : Int) ((1 + sumLen l0 + l1.length : Nat) : Int) ((1 + (applyR l0 l1).length : Nat) : Int) w
    hr0 hc0 hr1 hc1 (decide_eq_false (by omega)) (decide_eq_false (by omega)) (decide_eq_false (by omega)) (decide_eq_false (by omega)) (marked_length _ _ _)
    (q1 _ (by omega)) (q2 _ (by omega)) (q3 _ (by omega)) (q4 _ (by omega)) (q5 _ (by omega)) (q6 _ (by omega)) (q7 _ (by omega)) (q8 _ (by omega)) (q9 _ (by omega)) (q10 _ (by omega)) (q11 _ (by omega)) (q12 _ (by omega)) (q13 _ (by omega))


end Go.Proofs.Ythjdnjmlamfdbaa.Pure
