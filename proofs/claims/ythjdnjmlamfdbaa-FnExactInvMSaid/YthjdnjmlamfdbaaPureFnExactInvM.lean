/- The program's InvM and the reference's InvM return the same, for every list of lists of numbers; the argument is left alone, and what is returned is shared with nothing. -/
import Derived.Test.YthjdnjmlamfdbaaXFnExactInvMx
import Derived.Test.YthjdnjmlamfdbaaWf
set_option linter.unusedVariables false
set_option linter.unusedSimpArgs false
namespace Go.Proofs.Ythjdnjmlamfdbaa.Pure
open Go.RowKit Go.Proofs.Ythjdnjmlamfdbaa.XFnExactInvM Go.Proofs.YthjdnjmlamfdbaaW.PrintWords Go.Proofs.YthjdnjmlamfdbaaW.PrintLast

theorem spec_l01In_eq (a l h : Int) : spec_l01In.f a l h = some (decide (l ≤ a ∧ a ≤ h)) := by
  unfold spec_l01In.f
  by_cases h1 : l ≤ a
  · rw [if_pos h1]; simp [h1]
  · rw [if_neg h1]; simp [h1]

/-! ### lists of lists of whole numbers: copied, measured -/
theorem toIntS_ev (l : List Int) (hl : l.length ≤ 35184372088832) : Ev (fun k => laws_toIntS.f k l) l := by
  have key : ∀ (B A : List Int), l = A ++ B → Ev (fun k => laws_toIntS.l0 k l (A ++ List.replicate B.length 0) (A.length : Int)) l := by
    intro B
    induction B with
    | nil =>
      intro A h
      refine Ev.step (f := fun _ => some l) (fun k => ?_) (Ev.now _)
      simp only [laws_toIntS.l0]
      rw [if_neg (by rw [h]; simp)]
      simp [h]
    | cons x B ih =>
      intro A h
      refine Ev.step (fun k => ?_) (ih (A ++ [x]) (by simp [h]))
      have e : l.length = A.length + (B.length + 1) := by rw [h]; simp
      simp only [laws_toIntS.l0]
      rw [if_pos (by omega), if_pos (by omega), if_pos (by simp; omega), wsucc (by omega), Int.toNat_natCast]
      have r : rd l (A.length : Int) = x := by rw [h]; exact rdI_mid A x B
      rw [r, List.length_cons, List.replicate_succ, set_midI]
      simp
  unfold laws_toIntS.f
  refine Ev.pos (by omega) (Ev.pos (by omega) ?_)
  have z := key l [] rfl
  simpa using z
theorem toIntSS_ev (l : List (List Int)) (hl : l.length ≤ 4503599627370496) (hr : ∀ r ∈ l, r.length ≤ 35184372088832) (hl2 : l.length ≤ 11728124029610) : Ev (fun k => laws_toIntSS.f k l) l := by
  have key : ∀ (B A : List (List Int)), l = A ++ B → Ev (fun k => laws_toIntSS.l0 k l (A ++ List.replicate B.length []) (A.length : Int)) l := by
    intro B
    induction B with
    | nil =>
      intro A h
      refine Ev.step (f := fun _ => some l) (fun k => ?_) (Ev.now _)
      simp only [laws_toIntSS.l0]
      rw [if_neg (by rw [h]; simp)]
      simp [h]
    | cons x B ih =>
      intro A h
      have e : l.length = A.length + (B.length + 1) := by rw [h]; simp
      have r : rd_L1 l (A.length : Int) = x := by rw [h]; exact rdL_mid A x B
      refine Ev.step (f := fun k => (laws_toIntS.f k x).bind fun t => laws_toIntSS.l0 k l ((A ++ List.replicate (B.length + 1) []).set A.length t) ((A.length + 1 : Nat) : Int)) (fun k => ?_) (Ev.bind (toIntS_ev x (hr x (by rw [h]; simp))) ?_)
      · simp only [laws_toIntSS.l0]
        rw [if_pos (by omega), if_pos (by omega), r, wsucc (by omega), Int.toNat_natCast]
        congr 1
        funext t
        rw [if_pos (by simp; omega), List.length_cons]
      · have z := ih (A ++ [x]) (by simp [h])
        rw [List.replicate_succ, set_midI]
        simpa using z
  unfold laws_toIntSS.f
  refine Ev.pos (by omega) (Ev.pos (by omega) ?_)
  have z := key l [] rfl
  simpa using z
theorem szIntSS_ex (l : List (List Int)) (hl : l.length ≤ 9223372036854775807) (hr : ∀ r ∈ l, r.length ≤ 9223372036854775807) (left : Int) (h0 : 0 ≤ left) (h1 : left ≤ 1099511627776) :
    ∃ r, Ev (fun k => laws_szIntSS.f k l left) r ∧ (r < 0 ∨ (0 ≤ r ∧ r ≤ left ∧ (l.length : Int) ≤ left ∧ ∀ x ∈ l, (x.length : Int) ≤ left)) := by
  unfold laws_szIntSS.f
  rw [w64 (x := left - (l.length : Int)) (by omega) (by omega)]
  by_cases c : left - (l.length : Int) < 0
  · exact ⟨-1, Ev.pos c (Ev.now _), Or.inl (by omega)⟩
  · have key : ∀ (B A : List (List Int)) (y : Int), l = A ++ B → 0 ≤ y → y ≤ left → ∃ r, Ev (fun k => laws_szIntSS.l0 k l y (A.length : Int)) r ∧ (r < 0 ∨ (0 ≤ r ∧ r ≤ y ∧ ∀ x ∈ B, (x.length : Int) ≤ left)) := by
      intro B
      induction B with
      | nil =>
        intro A y h hy0 hy1
        refine ⟨y, Ev.step (f := fun _ => some y) (fun k => ?_) (Ev.now _), Or.inr ⟨hy0, Int.le_refl _, by simp⟩⟩
        simp only [laws_szIntSS.l0]
        rw [if_neg (by rw [h]; simp)]
      | cons x B ih =>
        intro A y h hy0 hy1
        have e : l.length = A.length + (B.length + 1) := by rw [h]; simp
        have r : rd_L1 l (A.length : Int) = x := by rw [h]; exact rdL_mid A x B
        have hx : x.length ≤ 9223372036854775807 := hr x (by rw [h]; simp)
        by_cases cx : y - (x.length : Int) < 0
        · refine ⟨-1, Ev.step (f := fun _ => some (-1)) (fun k => ?_) (Ev.now _), Or.inl (by omega)⟩
          simp only [laws_szIntSS.l0, laws_szIntS.f]
          rw [if_pos (by omega), if_pos (by omega), r, w64 (x := y - (x.length : Int)) (by omega) (by omega), if_pos cx]
          rfl
        · obtain ⟨q, hq, hq2⟩ := ih (A ++ [x]) (y - (x.length : Int)) (by simp [h]) (by omega) (by omega)
          refine ⟨q, Ev.step (fun k => ?_) hq, ?_⟩
          · simp only [laws_szIntSS.l0, laws_szIntS.f]
            rw [if_pos (by omega), if_pos (by omega), r, w64 (x := y - (x.length : Int)) (by omega) (by omega), if_neg cx, Option.bind_some, if_neg cx, wsucc (by omega)]
            simp
          · rcases hq2 with hn | ⟨q0, q1, q2⟩
            · exact Or.inl hn
            · refine Or.inr ⟨q0, by omega, fun z hz => ?_⟩
              rcases List.mem_cons.mp hz with rfl | hz
              · omega
              · exact q2 z hz
    obtain ⟨r, h2, h3⟩ := key l [] (left - (l.length : Int)) rfl (by omega) (by omega)
    refine ⟨r, Ev.neg c ?_, ?_⟩
    · simpa using h2
    · rcases h3 with h3 | ⟨h4, h5, h6⟩
      · exact Or.inl h3
      · exact Or.inr ⟨h4, by omega, by omega, h6⟩

/-! ### lists of lists of whole numbers, compared -/
theorem eqIntS_ev (l : List Int) (hl : l.length ≤ 4611686018427387904) : Ev (fun k => laws_eqIntS.f k l l) true := by
  have key : ∀ d (i : Nat), i ≤ l.length → l.length - i = d → Ev (fun k => laws_eqIntS.l0 k l l (i : Int)) true := by
    intro d
    induction d with
    | zero =>
      intro i hi hd
      exact Ev.step (f := fun _ => some true) (fun k => by simp only [laws_eqIntS.l0]; rw [if_neg (by omega)]) (Ev.now _)
    | succ d ih =>
      intro i hi hd
      refine Ev.step (fun k => ?_) (ih (i + 1) (by omega) (by omega))
      simp only [laws_eqIntS.l0]
      rw [if_pos (by omega), if_pos (by omega), if_pos (by omega), wsucc (by omega)]
      simp only [if_true]
  unfold laws_eqIntS.f
  simp only [if_true]
  exact key l.length 0 (by omega) (by omega)
theorem eqIntSS_ev (l : List (List Int)) (hl : l.length ≤ 4611686018427387904) (hr : ∀ r ∈ l, r.length ≤ 4611686018427387904) : Ev (fun k => laws_eqIntSS.f k l l) true := by
  have key : ∀ (B A : List (List Int)), l = A ++ B → Ev (fun k => laws_eqIntSS.l0 k l l (A.length : Int)) true := by
    intro B
    induction B with
    | nil =>
      intro A h
      refine Ev.step (f := fun _ => some true) (fun k => ?_) (Ev.now _)
      simp only [laws_eqIntSS.l0]
      rw [if_neg (by rw [h]; simp)]
    | cons x B ih =>
      intro A h
      have e : l.length = A.length + (B.length + 1) := by rw [h]; simp
      have r : rd_L1 l (A.length : Int) = x := by rw [h]; exact rdL_mid A x B
      refine Ev.step (f := fun k => (laws_eqIntS.f k x x).bind fun t => if t = true then laws_eqIntSS.l0 k l l ((A.length + 1 : Nat) : Int) else some false) (fun k => ?_) (Ev.bind (eqIntS_ev x (hr x (by rw [h]; simp))) (Ev.pos rfl ?_))
      · simp only [laws_eqIntSS.l0]
        rw [if_pos (by omega), if_pos (by omega), if_pos (by omega), r, wsucc (by omega)]
      · have z := ih (A ++ [x]) (by simp [h])
        simpa using z
  unfold laws_eqIntSS.f
  simp only [if_true]
  exact key l [] rfl

/-! ### spec.MatrixOk -/
theorem spec_MatrixOk_ev (m : List (List Int)) (hl : m.length ≤ 4611686018427387904) (hr : ∀ r ∈ m, r.length ≤ 4611686018427387904) : Ev (fun k => spec_MatrixOk.f k m) (okM m) := by
  have key : ∀ (B A : List (List Int)), m = A ++ B → Ev (fun k => spec_MatrixOk.l0 k m (A.length : Int)) (B.all (fun r => okR (m.headD []).length r && in18 (m.headD []).length) && in18 m.length) := by
    intro B
    induction B with
    | nil =>
      intro A h
      refine Ev.step (f := fun _ => some (in18 m.length)) (fun k => ?_) (Ev.now _)
      simp only [spec_MatrixOk.l0]
      rw [if_neg (by rw [h]; simp), spec_l01In_eq, in18_int]
      rfl
    | cons x B ih =>
      intro A h
      have e : m.length = A.length + (B.length + 1) := by rw [h]; simp
      have r : rd_L1 m (A.length : Int) = x := by rw [h]; exact rdL_mid A x B
      have hx : x.length ≤ 4611686018427387904 := hr x (by rw [h]; simp)
      have z := ih (A ++ [x]) (by simp [h])
      have inner : ∀ (D C : List Int), x = C ++ D → Ev (fun k => spec_MatrixOk.l1 k m (A.length : Int) (C.length : Int)) (D.all inB && (B.all (fun r => okR (m.headD []).length r && in18 (m.headD []).length) && in18 m.length)) := by
        intro D
        induction D with
        | nil =>
          intro C hc
          refine Ev.step (fun k => ?_) z
          simp only [spec_MatrixOk.l1]
          rw [if_pos (by omega), if_pos (by omega), r, if_neg (by rw [hc]; simp), wsucc (by omega)]
          simp
        | cons y D ihd =>
          intro C hc
          have ex : x.length = C.length + (D.length + 1) := by rw [hc]; simp
          have ry : rd x (C.length : Int) = y := by rw [hc]; exact rdI_mid C y D
          have zd := ihd (C ++ [y]) (by simp [hc])
          by_cases hy : inB y = true
          · rw [List.all_cons, hy, Bool.true_and]
            refine Ev.step (fun k => ?_) zd
            simp only [spec_MatrixOk.l1]
            rw [if_pos (by omega), if_pos (by omega), r, if_pos (by omega), if_pos (by omega), ry, spec_l01In_eq, Option.bind_some, if_pos (by exact hy), wsucc (by omega)]
            simp
          · rw [List.all_cons, Bool.eq_false_iff.mpr hy, Bool.false_and, Bool.false_and]
            refine Ev.step (f := fun _ => some false) (fun k => ?_) (Ev.now _)
            simp only [spec_MatrixOk.l1]
            rw [if_pos (by omega), if_pos (by omega), r, if_pos (by omega), if_pos (by omega), ry, spec_l01In_eq, Option.bind_some, if_neg (by exact hy)]
      have j : ∀ b : Bool, Ev (fun k => spec_MatrixOk.j1 k m (A.length : Int) b) (!b && (x.all inB && (B.all (fun r => okR (m.headD []).length r && in18 (m.headD []).length) && in18 m.length))) := by
        intro b
        cases b with
        | true => exact Ev.step (f := fun _ => some false) (fun k => by simp only [spec_MatrixOk.j1, if_true]) (Ev.now _)
        | false =>
          have y := inner x [] rfl
          rw [Bool.not_false, Bool.true_and]
          refine Ev.step (fun k => ?_) y
          simp only [spec_MatrixOk.j1, Bool.false_eq_true, if_false]
          rfl
      rw [List.all_cons]
      by_cases hn : x.length = (m.headD []).length
      · refine Ev.step (f := fun k => spec_MatrixOk.j1 k m (A.length : Int) (!in18 x.length)) (fun k => ?_) ?_
        · simp only [spec_MatrixOk.l0]
          rw [if_pos (by omega), if_pos (by omega), if_pos (by omega), r, rdL_zero, if_pos (by omega), spec_l01In_eq, Option.bind_some, in18_int]
        · have jj := j (!in18 x.length)
          have eqv : (okR (m.headD []).length x && in18 (m.headD []).length && B.all (fun r => okR (m.headD []).length r && in18 (m.headD []).length) && in18 m.length) = (!(!in18 x.length) && (x.all inB && (B.all (fun r => okR (m.headD []).length r && in18 (m.headD []).length) && in18 m.length))) := by
            unfold okR
            rw [hn, decide_eq_true rfl]
            cases x.all inB <;> cases in18 (m.headD []).length <;> rfl
          rw [eqv]
          exact jj
      · refine Ev.step (f := fun k => spec_MatrixOk.j1 k m (A.length : Int) true) (fun k => ?_) ?_
        · simp only [spec_MatrixOk.l0]
          rw [if_pos (by omega), if_pos (by omega), if_pos (by omega), r, rdL_zero, if_neg (by omega)]
        · have jj := j true
          have eqv : (okR (m.headD []).length x && in18 (m.headD []).length && B.all (fun r => okR (m.headD []).length r && in18 (m.headD []).length) && in18 m.length) = false := by
            unfold okR
            rw [decide_eq_false hn]
            rfl
          rw [eqv]
          exact jj
  have z := key m [] rfl
  have e : okM m = (m.all (fun r => okR (m.headD []).length r && in18 (m.headD []).length) && in18 m.length) := by
    cases m with
    | nil => rfl
    | cons x B =>
      unfold okM
      cases hx : in18 ((x :: B).headD []).length with
      | true =>
        simp only [Bool.and_true]
        exact Bool.and_comm _ _
      | false => simp
  rw [e]
  exact z

theorem spec_l05Mod_eq {a : Int} (h0 : -9223372036854775808 ≤ a) (h1 : a ≤ 9223372036854775807) : spec_l05Mod.f a = some ((modb a : Nat) : Int) := by
  have e : Int.tmod a 256 = if a < 0 ∧ a % 256 ≠ 0 then a % 256 - 256 else a % 256 := by
    rcases Int.lt_or_le a 0 with h | h
    · obtain ⟨n, rfl⟩ : ∃ n : Nat, a = -(n : Int) := ⟨(-a).toNat, by omega⟩
      rw [Int.neg_tmod, Int.tmod_eq_emod_of_nonneg (by omega)]
      split <;> omega
    · rw [Int.tmod_eq_emod_of_nonneg h, if_neg (by omega)]
  unfold spec_l05Mod.f modb
  rw [e]
  by_cases c : a < 0 ∧ a % 256 ≠ 0
  · rw [if_pos c, if_pos (by omega), w64 (by omega) (by omega)]
    congr 1
    omega
  · rw [if_neg c, if_neg (by omega)]
    congr 1
    omega
theorem spec_MulG_l0 (n : Nat) : ∀ (a b out : Nat), a < 256 → b < 2 ^ n → n ≤ 8 → out < 256 → Ev (fun k => spec_MulG.l0 k (a : Int) (b : Int) (out : Int)) ((out ^^^ Gf.gm n a b : Nat) : Int) := by
  induction n with
  | zero =>
    intro a b out ha hb hn ho
    have hb0 : b = 0 := by omega
    subst hb0
    exact Ev.step (f := fun _ => some (out : Int)) (fun k => by simp only [spec_MulG.l0]; rw [if_neg (by omega)]) (by simpa [Gf.gm] using Ev.now _)
  | succ n ih =>
    intro a b out ha hb hn ho
    by_cases hb0 : b = 0
    · subst hb0
      have hz : Gf.gm (n + 1) a 0 = 0 := by
        have : ∀ n a, Gf.gm n a 0 = 0 := by
          intro n
          induction n with
          | zero => intro a; rfl
          | succ n ih => intro a; simp [Gf.gm, ih]
        exact this _ _
      rw [hz, Nat.xor_zero]
      exact Ev.step (f := fun _ => some (out : Int)) (fun k => by simp only [spec_MulG.l0]; rw [if_neg (by omega)]) (Ev.now _)
    · have h8 : 2 ^ n ≤ 2 ^ 8 := Nat.pow_le_pow_right (by omega) (by omega)
      have h9 : 2 ^ (n + 1) = 2 * 2 ^ n := by rw [Nat.pow_succ]; omega
      have h10 : 2 ^ (n + 1) ≤ 2 ^ 8 := Nat.pow_le_pow_right (by omega) hn
      have hm : Int.tmod (b : Int) 2 = ((b % 2 : Nat) : Int) := by rw [Int.tmod_eq_emod_of_nonneg (by omega)]; rfl
      have hd : wrap64 (Int.tdiv (b : Int) 2) = ((b / 2 : Nat) : Int) := by rw [Int.tdiv_eq_ediv_of_nonneg (by omega), w64 (by omega) (by omega)]; rfl
      have h2 : wrap64 (2 * (a : Int)) = ((2 * a : Nat) : Int) := by rw [w64 (by omega) (by omega)]; rfl
      have hx : ∀ m : Nat, m < 256 → (out ^^^ (if b % 2 = 1 then a else 0) ^^^ Gf.gm n (Gf.xt a) (b / 2)) = (out ^^^ Gf.gm (n + 1) a b) := by
        intro m _
        rw [Gf.gm, Nat.xor_assoc]
      have hxa : Go.bits .xor .i64 (out : Int) (a : Int) = ((out ^^^ a : Nat) : Int) := bits_xor64 (by omega) (by omega)
      have hx5 : Go.bits .xor .i64 ((2 * a : Nat) : Int) 285 = ((2 * a ^^^ 285 : Nat) : Int) := bits_xor64 (b := 285) (by omega) (by omega)
      rw [← hx 0 (by omega)]
      have hlt : out ^^^ (if b % 2 = 1 then a else 0) < 256 := Gf.xor_lt (n := 8) ho (by split <;> omega)
      refine Ev.step (f := fun k => spec_MulG.l0 k ((Gf.xt a : Nat) : Int) ((b / 2 : Nat) : Int) ((out ^^^ (if b % 2 = 1 then a else 0) : Nat) : Int)) (fun k => ?_) (ih _ _ _ (Gf.xt_lt ha) (by omega) (by omega) hlt)
      simp only [spec_MulG.l0, hm, hd, h2, hxa, hx5]
      rw [if_pos (by omega)]
      unfold Gf.xt
      by_cases c1 : b % 2 = 1 <;> by_cases c2 : 255 < 2 * a
      · rw [if_pos (by omega), if_pos (by omega), if_pos c1, if_pos c2]
      · rw [if_pos (by omega), if_neg (by omega), if_pos c1, if_neg c2]
      · rw [if_neg (by omega), if_pos (by omega), if_neg c1, if_pos c2, Nat.xor_zero]
      · rw [if_neg (by omega), if_neg (by omega), if_neg c1, if_neg c2, Nat.xor_zero]
theorem spec_MulG_ev {a b : Int} (a0 : -9223372036854775808 ≤ a) (a1 : a ≤ 9223372036854775807) (b0 : -9223372036854775808 ≤ b) (b1 : b ≤ 9223372036854775807) : Ev (fun k => spec_MulG.f k a b) (gmul a b) := by
  have h := spec_MulG_l0 8 (modb a) (modb b) 0 (modb_lt a) (modb_lt b) (Nat.le_refl _) (by omega)
  rw [Nat.zero_xor] at h
  refine Ev.congr (fun k => ?_) h
  unfold spec_MulG.f
  rw [spec_l05Mod_eq a0 a1, spec_l05Mod_eq b0 b1]
  rfl

/-! ### powers -/
def gpow (a : Int) (n : Int) : Int := if 0 ≤ n ∧ n ≤ 1000 then ((Gf.pow (modb a) n.toNat : Nat) : Int) else 0
theorem gmul_pow (a : Int) (i : Nat) : gmul ((Gf.pow (modb a) i : Nat) : Int) a = ((Gf.pow (modb a) (i + 1) : Nat) : Int) := by
  unfold gmul
  rw [modb_nat (Gf.pow_lt (modb_lt a) i)]
  rfl

theorem spec_PowG_l0 {a : Int} (a0 : -9223372036854775808 ≤ a) (a1 : a ≤ 9223372036854775807) (n : Nat) (hn : n ≤ 1000) (d : Nat) : ∀ i : Nat, i ≤ n → n - i = d →
    Ev (fun k => spec_PowG.l0 k a (n : Int) ((Gf.pow (modb a) i : Nat) : Int) (i : Int)) ((Gf.pow (modb a) n : Nat) : Int) := by
  induction d with
  | zero =>
    intro i hi hd
    obtain rfl : i = n := by omega
    exact Ev.step (f := fun _ => some ((Gf.pow (modb a) i : Nat) : Int)) (fun k => by simp only [spec_PowG.l0]; rw [if_neg (by omega)]) (Ev.now _)
  | succ d ih =>
    intro i hi hd
    have hl := Gf.pow_lt (modb_lt a) i
    refine Ev.step (f := fun k => (spec_MulG.f k ((Gf.pow (modb a) i : Nat) : Int) a).bind fun t => spec_PowG.l0 k a (n : Int) t ((i + 1 : Nat) : Int)) (fun k => ?_) (Ev.bind (spec_MulG_ev (by omega) (by omega) a0 a1) ?_)
    · simp only [spec_PowG.l0]
      rw [if_pos (by omega), w64 (by omega) (by omega)]
      rfl
    · rw [gmul_pow]
      exact ih (i + 1) (by omega) (by omega)
theorem spec_PowG_ev {a n : Int} (a0 : -9223372036854775808 ≤ a) (a1 : a ≤ 9223372036854775807) : Ev (fun k => spec_PowG.f k a n) (gpow a n) := by
  unfold gpow spec_PowG.f
  simp only [spec_l01In_eq, Option.bind_some, decide_eq_true_eq]
  by_cases h : 0 ≤ n ∧ n ≤ 1000
  · simp only [if_pos h]
    obtain ⟨m, rfl⟩ := Int.eq_ofNat_of_zero_le h.1
    exact spec_PowG_l0 a0 a1 m (by omega) m 0 (by omega) (by omega)
  · simp only [if_neg h]
    exact Ev.now _

theorem spec_InvG_ev {a : Int} (a0 : -9223372036854775808 ≤ a) (a1 : a ≤ 9223372036854775807) : Ev (fun k => spec_InvG.f k a) (ginv a) := by
  unfold spec_InvG.f ginv
  rw [spec_l05Mod_eq a0 a1]
  simp only [Option.bind_some]
  have hl := modb_lt a
  by_cases h : modb a = 0
  · simp only [h, if_true, Int.natCast_zero]
    exact Ev.now _
  · simp only [if_neg h, if_neg (show ¬ ((modb a : Nat) : Int) = 0 by omega)]
    have hp := spec_PowG_ev (a := ((modb a : Nat) : Int)) (n := 254) (by omega) (by omega)
    have e : gpow ((modb a : Nat) : Int) 254 = ((Gf.pow (modb a) 254 : Nat) : Int) := by
      unfold gpow
      rw [if_pos (by omega), modb_nat hl]
      rfl
    rw [e] at hp
    exact Ev.bind hp (Ev.now _)

/-! ### spec.OneM -/
theorem spec_OneM_ev (n : Int) : Ev (fun k => spec_OneM.f k n) (oneR n) := by
  unfold spec_OneM.f oneR
  by_cases h : 1 ≤ n ∧ n ≤ 8
  · rw [if_pos h]
    obtain ⟨N, rfl⟩ := Int.eq_ofNat_of_zero_le (show 0 ≤ n by omega)
    have key : ∀ d i : Nat, i ≤ N → N - i = d → Ev (fun q => spec_OneM.l0 q (N : Int) ((List.range i).map fun i => (List.range N).map fun j => ((idf i j : Nat) : Int)) (i : Int)) (mk N N idf) := by
      intro d
      induction d with
      | zero =>
        intro i hi hd
        obtain rfl : i = N := by omega
        refine Ev.step (f := fun _ => some (mk i i idf)) (fun q => ?_) (Ev.now _)
        simp only [spec_OneM.l0]
        rw [if_neg (by omega)]
        rfl
      | succ d ih =>
        intro i hi hd
        have z := ih (i + 1) (by omega) (by omega)
        rw [range_map_succ] at z
        refine Ev.step (fun q => ?_) z
        simp only [spec_OneM.l0]
        rw [if_pos (by omega), spec_l01In_eq, Option.bind_some, if_pos (decide_eq_true h), if_pos (by omega), if_pos (by omega), Option.bind_some, if_pos (by omega), Int.toNat_natCast, Int.toNat_natCast, List.length_replicate, if_pos (by omega), if_pos (by simp; omega), wsucc (by omega), one_row (by omega)]
    exact key N 0 (by omega) (by omega)
  · rw [if_neg h]
    by_cases h0 : 0 < n
    · refine Ev.step (f := fun _ => some []) (fun q => ?_) (Ev.now _)
      simp only [spec_OneM.l0]
      rw [if_pos h0, spec_l01In_eq, Option.bind_some, if_neg (by simpa using h)]
    · refine Ev.step (f := fun _ => some []) (fun q => ?_) (Ev.now _)
      simp only [spec_OneM.l0]
      rw [if_neg h0]

/-! ### spec.InvM -/
theorem times_ev {n v : Nat} {g : Nat → Nat} (hn : n ≤ 8) (hv : v < 256) (hg : ∀ j, j < n → g j < 256) : Ev (fun k => spec_l06Times.f k (rowN n g) (v : Int)) (rowN n (fun j => Gf.mul v (g j))) := by
  have key : ∀ d j : Nat, j ≤ n → n - j = d → Ev (fun k => spec_l06Times.l0 k (rowN n g) (v : Int) (rowN j (fun j => Gf.mul v (g j))) (j : Int)) (rowN n (fun j => Gf.mul v (g j))) := by
    intro d
    induction d with
    | zero =>
      intro j hj hd
      obtain rfl : j = n := by omega
      refine Ev.step (f := fun _ => some (rowN j (fun j => Gf.mul v (g j)))) (fun k => ?_) (Ev.now _)
      simp only [spec_l06Times.l0]
      rw [if_neg (by rw [rowN_length]; omega)]
    | succ d ih =>
      intro j hj hd
      have z := ih (j + 1) (by omega) (by omega)
      rw [rowN_succ] at z
      have hx := hg j (by omega)
      have e := spec_MulG_ev (a := (v : Int)) (b := ((g j : Nat) : Int)) (by omega) (by omega) (by omega) (by omega)
      rw [gmul_nn hv hx] at e
      refine Ev.step (f := fun k => (spec_MulG.f k (v : Int) ((g j : Nat) : Int)).bind fun t => spec_l06Times.l0 k (rowN n g) (v : Int) (rowN j (fun j => Gf.mul v (g j)) ++ [t]) ((j + 1 : Nat) : Int)) (fun k => ?_) (Ev.bind e z)
      simp only [spec_l06Times.l0]
      rw [if_pos (by rw [rowN_length]; omega), if_pos (by omega), rd_rowN g (by omega)]
      refine congrArg (Option.bind _) (funext fun t => ?_)
      rw [if_pos (by rw [rowN_length]; omega), wsucc (by omega)]
  exact key n 0 (by omega) (by omega)
theorem take_ev {n t : Nat} {a b : Nat → Nat} (hn : n ≤ 8) (ht : t < 256) (ha : ∀ j, j < n → a j < 256) (hb : ∀ j, j < n → b j < 256) : Ev (fun k => spec_l06Row.f k (rowN n a) (rowN n b) (t : Int)) (rowN n (fun j => a j ^^^ Gf.mul t (b j))) := by
  have key : ∀ d j : Nat, j ≤ n → n - j = d → Ev (fun k => spec_l06Row.l0 k (rowN n a) (rowN n b) (t : Int) (rowN j (fun j => a j ^^^ Gf.mul t (b j))) (j : Int)) (rowN n (fun j => a j ^^^ Gf.mul t (b j))) := by
    intro d
    induction d with
    | zero =>
      intro j hj hd
      obtain rfl : j = n := by omega
      refine Ev.step (f := fun _ => some (rowN j (fun j => a j ^^^ Gf.mul t (b j)))) (fun k => ?_) (Ev.now _)
      simp only [spec_l06Row.l0]
      rw [if_neg (by rw [rowN_length]; omega)]
    | succ d ih =>
      intro j hj hd
      have z := ih (j + 1) (by omega) (by omega)
      rw [rowN_succ] at z
      have hx := hb j (by omega)
      have hy := ha j (by omega)
      have hm := Gf.mul_lt (b j) ht
      have e := spec_MulG_ev (a := (t : Int)) (b := ((b j : Nat) : Int)) (by omega) (by omega) (by omega) (by omega)
      rw [gmul_nn ht hx] at e
      refine Ev.step (f := fun k => (spec_MulG.f k (t : Int) ((b j : Nat) : Int)).bind fun s => spec_l06Row.l0 k (rowN n a) (rowN n b) (t : Int) (rowN j (fun j => a j ^^^ Gf.mul t (b j)) ++ [Go.bits .xor .i64 ((a j : Nat) : Int) s]) ((j + 1 : Nat) : Int)) (fun k => ?_) (Ev.bind e ?_)
      · simp only [spec_l06Row.l0]
        rw [if_pos (by rw [rowN_length]; omega), if_pos (by omega), if_pos (by rw [rowN_length]; omega), rd_rowN a (by omega), rd_rowN b (by omega)]
        refine congrArg (Option.bind _) (funext fun s => ?_)
        rw [if_pos (by rw [rowN_length]; omega), wsucc (by omega)]
      · rw [bits_xor64 (by omega) (by omega)]
        exact z
  exact key n 0 (by omega) (by omega)
theorem spec_elim_ev {n c : Nat} {A B : Nat → Nat → Nat} {v : List (List Int) × Bool} (hn : n ≤ 8) (hc : c < n) (hA : bytesM n A) (hB : bytesM n B)
    (h : Ev (fun k => spec_InvM.l1 k (n : Int) (mk n n (elimM c (fun i => A i c) A)) (mk n n (elimM c (fun i => A i c) B)) ((c + 1 : Nat) : Int)) v) :
    ∀ d i0 : Nat, i0 ≤ n → n - i0 = d → Ev (fun k => spec_InvM.l3 k (n : Int) (mk n n (partM c (fun i => A i c) i0 A)) (mk n n (partM c (fun i => A i c) i0 B)) (c : Int) (i0 : Int)) v := by
  intro d
  induction d with
  | zero =>
    intro i0 hi hd
    obtain rfl : i0 = n := by omega
    rw [part_all, part_all]
    refine Ev.step (fun k => ?_) h
    simp only [spec_InvM.l3]
    rw [if_neg (by omega), wsucc (by omega)]
  | succ d ih =>
    intro i0 hi hd
    have z := ih (i0 + 1) (by omega) (by omega)
    have same : (i0 = c ∨ A i0 c = 0) → Ev (fun k => spec_InvM.j6 k (n : Int) (mk n n (partM c (fun i => A i c) i0 A)) (mk n n (partM c (fun i => A i c) i0 B)) (c : Int) (i0 : Int) false) v := by
      intro hs
      rw [part_same n c (fun i => A i c) i0 A hs, part_same n c (fun i => A i c) i0 B hs] at z
      refine Ev.step (fun k => ?_) z
      simp only [spec_InvM.j6, Bool.false_eq_true, if_false]
      rw [wsucc (by omega)]
    by_cases hic : i0 = c
    · refine Ev.step (fun k => ?_) (same (Or.inl hic))
      simp only [spec_InvM.l3]
      rw [if_pos (by omega), if_pos (by omega)]
    · have rA : partM c (fun i => A i c) i0 A i0 = A i0 := part_row _ A (fun e => absurd e.1 (Nat.lt_irrefl _))
      have rAc : partM c (fun i => A i c) i0 A c = A c := part_row _ A (fun e => e.2 rfl)
      have rB : partM c (fun i => A i c) i0 B i0 = B i0 := part_row _ B (fun e => absurd e.1 (Nat.lt_irrefl _))
      have rBc : partM c (fun i => A i c) i0 B c = B c := part_row _ B (fun e => e.2 rfl)
      have go : Ev (fun k => spec_InvM.j6 k (n : Int) (mk n n (partM c (fun i => A i c) i0 A)) (mk n n (partM c (fun i => A i c) i0 B)) (c : Int) (i0 : Int) (((A i0 c : Nat) : Int) != 0)) v := by
        by_cases h0 : A i0 c = 0
        · rw [show (((A i0 c : Nat) : Int) != 0) = false by rw [h0]; rfl]
          exact same (Or.inr h0)
        · rw [show (((A i0 c : Nat) : Int) != 0) = true from bne_iff_ne.mpr (by omega)]
          have e1 := take_ev (n := n) (t := A i0 c) (a := A i0) (b := A c) hn (hA i0 (by omega) c hc) (hA i0 (by omega)) (hA c hc)
          have e2 := take_ev (n := n) (t := A i0 c) (a := B i0) (b := B c) hn (hA i0 (by omega) c hc) (hB i0 (by omega)) (hB c hc)
          refine Ev.step (f := fun k => (spec_l06Row.f k (rowN n (A i0)) (rowN n (A c)) ((A i0 c : Nat) : Int)).bind fun t => (spec_l06Row.f k (rowN n (B i0)) (rowN n (B c)) ((A i0 c : Nat) : Int)).bind fun s => spec_InvM.l3 k (n : Int) ((mk n n (partM c (fun i => A i c) i0 A)).set i0 t) ((mk n n (partM c (fun i => A i c) i0 B)).set i0 s) (c : Int) ((i0 + 1 : Nat) : Int)) (fun k => ?_) (Ev.bind e1 (Ev.bind e2 ?_))
          · simp only [spec_InvM.j6, if_true]
            rw [rdL_mk _ (i := i0) (by omega), rdL_mk _ (i := c) hc, rdL_mk _ (i := i0) (by omega), rdL_mk _ (i := c) hc, rA, rAc, rB, rBc, rd_rowN _ hc, mk_length, mk_length, rowN_length]
            rw [if_pos (by omega), if_pos (by omega), if_pos (by omega), if_pos (by omega), if_pos (by omega)]
            refine congrArg (Option.bind _) (funext fun t => ?_)
            rw [if_pos (by omega), if_pos (by omega), wsucc (by omega), Int.toNat_natCast]
          · rw [part_next (fun i => A i c) A (by omega) hic, part_next (fun i => A i c) B (by omega) hic]
            exact z
      refine Ev.step (fun k => ?_) go
      simp only [spec_InvM.l3]
      rw [if_pos (by omega), if_neg (by omega), rdL_mk _ (i := i0) (by omega), rA, rd_rowN _ hc, mk_length, rowN_length, if_pos (by omega), if_pos (by omega), if_pos (by omega), if_pos (by omega)]
theorem spec_find_ev {n c : Nat} {A : Nat → Nat → Nat} {B : List (List Int)} {v : List (List Int) × Bool} (hn : n ≤ 8) (hc : c < n) :
    ∀ d p : Nat, p ≤ n → n - p = d → Ev (fun k => spec_InvM.j4 k (n : Int) (mk n n A) B (c : Int) ((match findP A c d p with | some q => q | none => n : Nat) : Int)) v → Ev (fun k => spec_InvM.l2 k (n : Int) (mk n n A) B (c : Int) (p : Int)) v := by
  intro d
  induction d with
  | zero =>
    intro p hp hd h
    obtain rfl : p = n := by omega
    refine Ev.step (fun k => ?_) h
    simp only [spec_InvM.l2]
    rw [if_neg (by omega)]
    rfl
  | succ d ih =>
    intro p hp hd h
    by_cases h0 : A p c = 0
    · have e : findP A c (d + 1) p = findP A c d (p + 1) := by
        rw [findP, if_pos h0]
      rw [e] at h
      refine Ev.step (fun k => ?_) (ih (p + 1) (by omega) (by omega) h)
      simp only [spec_InvM.l2]
      rw [if_pos (by omega), if_pos (by omega), mk_length, if_pos (by omega), if_pos (by omega), rdL_mk _ (by omega), rowN_length, if_pos (by omega), rd_rowN _ hc, if_pos (by omega), wsucc (by omega)]
    · have e : findP A c (d + 1) p = some p := by
        rw [findP, if_neg h0]
      rw [e] at h
      refine Ev.step (fun k => ?_) h
      simp only [spec_InvM.l2]
      rw [if_pos (by omega), if_pos (by omega), mk_length, if_pos (by omega), if_pos (by omega), rdL_mk _ (by omega), rowN_length, if_pos (by omega), rd_rowN _ hc, if_neg (by omega)]
theorem spec_cols_ev {n : Nat} (hn : n ≤ 8) : ∀ (d c : Nat) (A B : Nat → Nat → Nat), d + c = n → bytesM n A → bytesM n B → Ev (fun k => spec_InvM.l1 k (n : Int) (mk n n A) (mk n n B) (c : Int)) (gjRes n (gjGo n d c A B)) := by
  intro d
  induction d with
  | zero =>
    intro c A B hd hA hB
    refine Ev.step (f := fun _ => some (mk n n B, true)) (fun k => ?_) (Ev.now _)
    simp only [spec_InvM.l1]
    rw [if_neg (by omega)]
  | succ d ih =>
    intro c A B hd hA hB
    have hc : c < n := by omega
    have go : Ev (fun k => spec_InvM.j4 k (n : Int) (mk n n A) (mk n n B) (c : Int) ((match findP A c (n - c) c with | some q => q | none => n : Nat) : Int)) (gjRes n (gjGo n (d + 1) c A B)) := by
      unfold gjGo
      cases hp : findP A c (n - c) c with
      | none =>
        refine Ev.step (f := fun _ => some ([], false)) (fun k => ?_) (Ev.now _)
        simp only [spec_InvM.j4, if_true]
      | some p =>
        obtain ⟨p1, p2, p3⟩ := findP_some hp
        have hpn : p < n := by omega
        have hv : gjV p c A < 256 := Gf.pow_lt (hA p hpn c hc) 254
        have sA := (swap_op hpn hc).bytes _ hA
        have sB := (swap_op hpn hc).bytes _ hB
        have tA := (scale_op hc hv).bytes _ sA
        have tB := (scale_op hc hv).bytes _ sB
        have hT : ∀ i, i < n → gjT p c A i < 256 := fun i hi => tA i hi c hc
        have z := ih (c + 1) (gjF p c (gjV p c A) (gjT p c A) A) (gjF p c (gjV p c A) (gjT p c A) B) (by omega) ((elim_op hc hT).bytes _ tA) ((elim_op hc hT).bytes _ tB)
        have y := spec_elim_ev hn hc tA tB z n 0 (by omega) (by omega)
        rw [part_zero, part_zero] at y
        have pc : swapM p c A c c = A p c := by unfold swapM; rw [if_pos rfl]
        have g := spec_InvG_ev (a := ((A p c : Nat) : Int)) (by have := hA p hpn c hc; omega) (by have := hA p hpn c hc; omega)
        rw [ginv_nat (hA p hpn c hc) p3] at g
        have e1 := times_ev (n := n) (v := gjV p c A) (g := swapM p c A c) hn hv (sA c hc)
        have e2 := times_ev (n := n) (v := gjV p c A) (g := swapM p c B c) hn hv (sB c hc)
        refine Ev.step (f := fun k => (spec_InvG.f k ((A p c : Nat) : Int)).bind fun t => (spec_l06Times.f k (rowN n (swapM p c A c)) t).bind fun r => (spec_l06Times.f k (rowN n (swapM p c B c)) t).bind fun s => spec_InvM.l3 k (n : Int) ((mk n n (swapM p c A)).set c r) ((mk n n (swapM p c B)).set c s) (c : Int) 0) (fun k => ?_) (Ev.bind g (Ev.bind e1 (Ev.bind e2 ?_)))
        · simp only [spec_InvM.j4]
          rw [if_neg (by omega), if_pos (by omega), mk_length, if_pos (by omega), if_pos (by omega), if_pos (by omega), Option.bind_some, mk_length, if_pos (by omega), if_pos (by omega), Option.bind_some, Int.toNat_natCast, Int.toNat_natCast]
          rw [rdL_mk A hc, rdL_mk A hpn, rdL_mk B hc, rdL_mk B hpn, swap_list A hpn hc, swap_list B hpn hc, rdL_mk _ hc, rdL_mk _ hc, rowN_length, if_pos (by omega), rd_rowN _ hc, pc]
        · rw [scale_list _ hc, scale_list _ hc]
          exact y
    refine Ev.step (fun k => ?_) (spec_find_ev hn hc (n - c) c (by omega) rfl go)
    simp only [spec_InvM.l1]
    rw [if_pos (by omega)]
theorem spec_InvM_ev (m : List (List Int)) (hm : m.length ≤ 1099511627776) (hr : ∀ r ∈ m, r.length ≤ 1099511627776) : Ev (fun k => spec_InvM.f k m) (invR m) := by
  have em := spec_MatrixOk_ev m (by omega) (fun r h => by have := hr r h; omega)
  have bad : Ev (fun k => spec_InvM.j0 k m true) (([] : List (List Int)), false) := Ev.step (f := fun _ => some ([], false)) (fun k => by simp only [spec_InvM.j0, if_true]) (Ev.now _)
  unfold spec_InvM.f
  refine Ev.bind em ?_
  cases om : okM m with
  | false =>
    rw [show invR m = ([], false) by unfold invR; rw [if_neg (by simp [om])]]
    exact Ev.neg (by simp) bad
  | true =>
    obtain ⟨a1, a2, a3, a4, _⟩ := of_okM om
    refine Ev.pos rfl (Ev.pos (by omega) ?_)
    rw [rdL_zero]
    by_cases hn : m.length = (m.headD []).length
    · rw [show invR m = gjRes m.length (gj m.length (ent m)) by unfold invR; rw [if_pos ⟨om, hn⟩]]
      rw [show (((m.length : Nat) : Int) != (((m.headD []).length : Nat) : Int)) = false by rw [← hn]; simp]
      have e := eq_mk om
      rw [← hn] at e
      have hb : bytesM m.length (ent m) := fun i hi j hj => (rd_ent om hi (by omega)).2
      have o := spec_OneM_ev ((m.length : Nat) : Int)
      unfold oneR at o
      rw [if_pos (by omega), Int.toNat_natCast] at o
      have last := spec_cols_ev a2 m.length 0 (ent m) idf (by omega) hb (fun i _ j _ => idf_lt i j)
      have L0 : ∀ d i : Nat, i ≤ m.length → m.length - i = d → Ev (fun k => spec_InvM.l0 k m (m.length : Int) ((List.range i).map fun i => rowN m.length (ent m i)) (i : Int)) (gjRes m.length (gj m.length (ent m))) := by
        intro d
        induction d with
        | zero =>
          intro i hi hd
          obtain rfl : i = m.length := by omega
          refine Ev.step (f := fun k => (spec_OneM.f k (m.length : Int)).bind fun t => spec_InvM.l1 k (m.length : Int) (mk m.length m.length (ent m)) t 0) (fun k => ?_) (Ev.bind o last)
          simp only [spec_InvM.l0]
          rw [if_neg (by omega)]
          rfl
        | succ d ih =>
          intro i hi hd
          have z := ih (i + 1) (by omega) (by omega)
          rw [range_map_succ] at z
          have hl := rdL_len om (i := i) (by omega)
          have er : rd_L1 m (i : Int) = rowN m.length (ent m i) := by
            have q := rdL_mk (n := m.length) (ent m) (i := i) (by omega)
            rw [← e] at q
            exact q
          refine Ev.step (fun k => ?_) z
          simp only [spec_InvM.l0]
          rw [if_pos (by omega), Option.bind_some, if_pos (by omega), if_pos (by omega), if_pos (by rw [hl, List.length_nil]; omega), if_pos (by rw [List.length_map, List.length_range]; omega), er, wsucc (by omega), List.nil_append]
      refine Ev.step (fun k => ?_) (L0 m.length 0 (by omega) (by omega))
      simp only [spec_InvM.j0, Bool.false_eq_true, if_false]
      rfl
    · rw [show invR m = ([], false) by unfold invR; rw [if_neg (fun h => hn h.2)]]
      rw [show (((m.length : Nat) : Int) != (((m.headD []).length : Nat) : Int)) = true from bne_iff_ne.mpr (by omega)]
      exact bad

def sumLen : List (List Int) → Nat
  | [] => 0
  | r :: rs => r.length + sumLen rs
theorem sumLen_le {N : Nat} : ∀ {l : List (List Int)}, (∀ r ∈ l, r.length ≤ N) → sumLen l ≤ l.length * N
  | [], _ => by simp [sumLen]
  | r :: rs, h => by
    have h1 := h r (by simp)
    have h2 := sumLen_le (l := rs) (fun x hx => h x (by simp [hx]))
    simp only [sumLen, List.length_cons, Nat.add_mul, Nat.one_mul]
    omega

/-! ### laws.markIntSS: rows of rows are written through -/
def laws_markIntSS.l0 : Nat → List (List Int) → Int → Int → Option (Int × List (List Int))
  | 0, _, _, _ => none
  | k + 1, x0, x1, x5 => if x5 < (x0.length : Int) then (if 0 ≤ x5 then ((laws_markIntS.f k (rd_L1 x0 x5) x1).bind fun bt => (laws_markIntSS.l0 k (x0.set (x5 : Int).toNat bt.2) bt.1 (wrap64 (x5 + 1)))) else none) else (some (x1, x0))
def laws_markIntSS.f (k : Nat) (l0 : List (List Int)) (a1 : Int) : Option (Int × List (List Int)) := laws_markIntSS.l0 k l0 a1 0
set_option maxHeartbeats 8000000 in
set_option maxRecDepth 100000 in
theorem laws_markIntSS.calls (k : Nat) (P0_ : Nat → Prop) (u9000_ : Value) (l0 : List (List Int)) (a1 : Int) (r1 : Int) (r2 : List (List Int)) (w0 w : World) (hB : Below w0.heap.size w0 w) (ho0 : Kd.S (Kd.slice 3 (Kd.int .i64)) 43 w w0.heap.size P0_ u9000_ l0) (h : laws_markIntSS.f k l0 a1 = some (r1, r2)) :
    Calls Try.prog 22 #[u9000_, .int .i64 a1] w fun e w' => e = .returned (.int .i64 r1) ∧ Kd.S (Kd.slice 3 (Kd.int .i64)) 43 w' w0.heap.size P0_ u9000_ r2 ∧ Below w0.heap.size w0 w' ∧ Kept w w' (fun k_ => P0_ k_) := by
  have HO0 := Aside0.mk ho0
  have HK := Aside0.mk (Kept.refl w (fun k_ => P0_ k_))
  have HB := Aside0.mk hB
  clear hB ho0
  have H' := Aside0.mk (show laws_markIntSS.l0 k l0 a1 0 = some (r1, r2) from h)
  clear h
  go_enter Try.func22, Try.ntmps22
  go_wp2
  go_loopg [1, 5] k (fun kq v1 v5 w' => ∃ (x0_1 : List (List Int)) (x1_1 : Int) (x5_1 : Int), v1 = .int .i64 x1_1 ∧ v5 = .int .i64 x5_1 ∧ Aside0 (laws_markIntSS.l0 kq x0_1 x1_1 x5_1 = some (r1, r2)) ∧ Aside0 (kq ≤ k) ∧ Aside0 (Kd.S (Kd.slice 3 (Kd.int .i64)) 43 w' w0.heap.size P0_ u9000_ x0_1) ∧ Aside0 (Kept w w' (fun k_ => P0_ k_)) ∧ Aside0 (Below w0.heap.size w0 w'))
  case atStart => exact ⟨l0, a1, 0, rfl, rfl, H', ⟨Nat.le_refl _⟩, ⟨by (with_reducible repeat (first | apply Kd.S_alloc | apply Kd.S_drewN | apply Kd.S_drew)); exact HO0.out⟩, ⟨by repeat (first | (with_reducible first | exact HK.out | apply Kept.alloc | apply Kept.drewN | apply Kept.drew) | exact HK.out)⟩, ⟨by repeat (first | (with_reducible first | exact HB.out | apply below_alloc | apply pw_below_drewN | apply below_drew1) | exact HB.out)⟩⟩
  case round =>
    clear H'
    obtain ⟨x0_1, x1_1, x5_1, rfl, rfl, HA, HK1, HO_0, HK, HB⟩ := hrel
    cases gk with
    | zero => exact absurd HA.out (by simp [laws_markIntSS.l0])
    | succ k1 =>
      have H := HA.out
      clear HA
      simp only [laws_markIntSS.l0] at H
      by_cases c3 : x5_1 < (x0_1.length : Int)
      · rw [if_pos c3] at H
        have c3b0 : decide (x5_1 < (x0_1.length : Int)) = true := decide_eq_true c3
        clear c3
        by_cases c4 : 0 ≤ x5_1
        · rw [if_pos c4] at H
          have c4b0 : decide (0 ≤ x5_1) = true := decide_eq_true c4
          clear c4
          replace H := Option.bind_eq_some_iff.mp H
          obtain ⟨⟨t1, t2⟩, A50, H⟩ := H
          have A5 := Aside0.mk A50
          clear A50
          have H' := Aside0.mk H
          clear H
          obtain ⟨Ao6, co6, eo6⟩ := Kd.S_slice HO_0.out
          subst eo6
          have p5 : 0 ≤ (x5_1 : Int) := of_decide_eq_true (by first | (with_reducible assumption) | assumption)
          have q5 : (x5_1 : Int) < ((x0_1.length : Int) : Int) := of_decide_eq_true (by first | (with_reducible assumption) | assumption)
          obtain ⟨go5, co5, eo5, gb5, gl5, cl5, HG5⟩ := Kd.S_form HO_0.out (by omega)
          (first | cases eo5 | (injection eo5 with ea_ en_ ec_; (first | subst ea_ | (injection ea_ with ea_; subst ea_)); subst ec_; clear en_))
          obtain ⟨oki, ce, hcl, hM, hcc, hoki, hH⟩ := Kd.S_lend HO_0.out [] (x5_1 : Int) p5 q5
          obtain ⟨ve, rfl, hR0⟩ := hM
          have hR : Kd.R (Kd.int .i64) 3 wr w0.heap.size oki ve (rd_L1 x0_1 x5_1) := hR0
          obtain ⟨A1, c1, e1⟩ := Kd.R_slice hR
          subst e1
          have hx5_0 := hcc 0 _ rfl
          simp only [show ((Kd.slice 3 (Kd.int .i64))).sz = 1 from rfl, Nat.mul_one, Nat.add_zero] at hx5_0
          replace p5 := eq_true p5
          replace q5 := eq_true q5
          go_wp2_with (first | ((with_reducible refine gate_callee (f := 53) rfl ?_); refine goesL_ (some 17) rfl rfl Try.func53 (by kernel_rfl) rfl #[.slice A1 (rd_L1 x0_1 x5_1).length c1, .int .i64 x1_1] rfl (by (try simp only [List.map_toArray, List.map_cons, List.map_nil]); first | done | rfl) ?_; (with_reducible refine (laws_markIntS.calls k1 oki (.slice A1 (rd_L1 x0_1 x5_1).length c1) (rd_L1 x0_1 x5_1) x1_1 t1 t2 w0 _ ?side1 ?side2 A5.out).mono ?_); (case side1 => repeat (first | (with_reducible first | exact HB.out | apply below_alloc | apply pw_below_drewN | apply below_drew1) | exact HB.out)); (case side2 => (with_reducible repeat (first | apply Kd.R_alloc | apply Kd.R_drewN | apply Kd.R_drew)); exact hR); rintro e w8 ⟨rfl, hy0, hb, hkp⟩; refine ⟨_, rfl, ?_⟩; have n0_ := Kd.H_back (Kd.H_kept (by (with_reducible repeat (first | apply Kd.H_alloc | apply Kd.H_drewN | apply Kd.H_drew)); exact hH) hkp (fun k_ _ hn => hn)) (Kd.M_row (Kd.R_reok (ok := oki) rfl hy0 (fun k_ e_ => hR.1 k_ e_))) (fun _ h_ => h_); have n1_ : Kept w w8 (fun k_ => P0_ k_) := Kept.then_ (by repeat (first | (with_reducible first | exact HK.out | apply Kept.alloc | apply Kept.drewN | apply Kept.drew) | exact HK.out)) hkp (fun k_ h_ => .inl (hoki k_ h_).1); clear HB HK HO_0 hH hkp hy0))
          go_roundg k1
          case measure => have := HK1.out; omega
          case rel => exact ⟨_, _, _, rfl, rfl, H', ⟨by have := HK1.out; omega⟩, ⟨by (with_reducible repeat (first | apply Kd.S_alloc | apply Kd.S_drewN | apply Kd.S_drew)); exact n0_⟩, ⟨by repeat (first | (with_reducible first | exact n1_ | apply Kept.alloc | apply Kept.drewN | apply Kept.drew) | exact n1_)⟩, ⟨by repeat (first | (with_reducible first | exact hb | apply below_alloc | apply pw_below_drewN | apply below_drew1) | exact hb)⟩⟩
        · rw [if_neg c4] at H
          exact absurd H (by simp)
      · rw [if_neg c3] at H
        have c3b0 : decide (x5_1 < (x0_1.length : Int)) = false := decide_eq_false c3
        clear c3
        simp only [Option.some.injEq, Prod.mk.injEq] at H
        obtain ⟨rfl, rfl⟩ := H
        obtain ⟨Ao9, co9, eo9⟩ := Kd.S_slice HO_0.out
        subst eo9
        go_wp2
        go_ret
        exact ⟨rfl, by (with_reducible repeat (first | apply Kd.S_alloc | apply Kd.S_drewN | apply Kd.S_drew)); exact HO_0.out, by repeat (first | (with_reducible first | exact HB.out | apply below_alloc | apply pw_below_drewN | apply below_drew1) | exact HB.out), by repeat (first | (with_reducible first | exact HK.out | apply Kept.alloc | apply Kept.drewN | apply Kept.drew) | exact HK.out)⟩

/-! ### marks in rows of rows -/
def mrow (n m : Nat) : List Int := (List.range n).map fun i => ((m + i : Nat) : Int)
def mrows : List (List Int) → Nat → List (List Int)
  | [], _ => []
  | r :: rs, m => mrow r.length m :: mrows rs (m + r.length)
theorem mrows_length : ∀ (l : List (List Int)) (m : Nat), (mrows l m).length = l.length
  | [], _ => rfl
  | r :: rs, m => by simp [mrows, mrows_length rs]
theorem mrow_length (n m : Nat) : (mrow n m).length = n := by simp [mrow]
theorem mrow_succ (n m : Nat) : mrow (n + 1) m = mrow n m ++ [((m + n : Nat) : Int)] := by simp [mrow, List.range_succ]
theorem markI_ev (l : List Int) (m : Nat) (hl : m + l.length ≤ 4611686018427387904) : Ev (fun k => laws_markIntS.f k l (m : Int)) (((m + l.length : Nat) : Int), mrow l.length m) := by
  have key : ∀ (B A : List Int) (i : Nat), A = mrow i m → m + i + B.length ≤ 4611686018427387904 → Ev (fun k => laws_markIntS.l0 k (A ++ B) ((m + i : Nat) : Int) (i : Int)) (((m + i + B.length : Nat) : Int), mrow (i + B.length) m) := by
    intro B
    induction B with
    | nil =>
      intro A i h hb
      refine Ev.step (f := fun _ => some (((m + i : Nat) : Int), A ++ [])) (fun k => ?_) ?_
      · simp only [laws_markIntS.l0]
        rw [if_neg (by rw [h]; simp [mrow_length])]
      · subst h
        simpa using Ev.now _
    | cons x B ih =>
      intro A i h hb
      have z := ih (A ++ [((m + i : Nat) : Int)]) (i + 1) (by rw [h, mrow_succ]) (by simp at hb; omega)
      have e1 : m + (i + 1) + B.length = m + i + (x :: B).length := by simp; omega
      have e2 : i + 1 + B.length = i + (x :: B).length := by simp; omega
      rw [e1, e2] at z
      have la : A.length = i := by rw [h, mrow_length]
      refine Ev.step (fun k => ?_) z
      simp only [laws_markIntS.l0]
      rw [if_pos (by simp; omega), if_pos (by omega), wsucc (by simp at hb; omega), wsucc (by simp at hb; omega), Int.toNat_natCast, show (A ++ x :: B).set i ((m + i : Nat) : Int) = A ++ ((m + i : Nat) : Int) :: B by rw [← la]; exact set_midI A x _ B]
      simp [Nat.add_assoc]
  have z := key l [] 0 rfl (by omega)
  unfold laws_markIntS.f
  simpa using z
theorem markSS_ev (l : List (List Int)) (m : Nat) (hl : m + sumLen l ≤ 4611686018427387904) (hn : l.length ≤ 4611686018427387904) : Ev (fun k => laws_markIntSS.f k l (m : Int)) (((m + sumLen l : Nat) : Int), mrows l m) := by
  have key : ∀ (B A : List (List Int)) (m i : Nat), A.length = i → i + B.length ≤ 4611686018427387904 → m + sumLen B ≤ 4611686018427387904 → Ev (fun k => laws_markIntSS.l0 k (A ++ B) ((m : Nat) : Int) (i : Int)) (((m + sumLen B : Nat) : Int), A ++ mrows B m) := by
    intro B
    induction B with
    | nil =>
      intro A m i h hb hs
      refine Ev.step (f := fun _ => some (((m : Nat) : Int), A ++ [])) (fun k => ?_) ?_
      · simp only [laws_markIntSS.l0]
        rw [if_neg (by simp; omega)]
      · simpa [sumLen, mrows] using Ev.now _
    | cons x B ih =>
      intro A m i h hb hs
      simp only [sumLen] at hs
      simp only [List.length_cons] at hb
      have z := ih (A ++ [mrow x.length m]) (m + x.length) (i + 1) (by simp [h]) (by omega) (by omega)
      have r : rd_L1 (A ++ x :: B) (i : Int) = x := by rw [← h]; exact rdL_mid A x B
      refine Ev.step (f := fun k => (laws_markIntS.f k x (m : Int)).bind fun bt => laws_markIntSS.l0 k ((A ++ x :: B).set i bt.2) bt.1 ((i + 1 : Nat) : Int)) (fun k => ?_) (Ev.bind (markI_ev x m (by omega)) ?_)
      · simp only [laws_markIntSS.l0]
        rw [if_pos (by simp; omega), if_pos (by omega), r, wsucc (by omega), Int.toNat_natCast]
      · rw [← h, set_midI, h]
        simpa [sumLen, mrows, Nat.add_assoc] using z
  have z := key l [] m 0 rfl (by omega) hl
  unfold laws_markIntSS.f
  simpa using z

/-! ### marks in rows of rows, held -/
theorem heldI_ev (n m : Nat) (hl : m + n ≤ 4611686018427387904) : Ev (fun k => laws_heldIntS.f k (mrow n m) (m : Int)) ((m + n : Nat) : Int) := by
  have key : ∀ d (i : Nat), i ≤ n → n - i = d → Ev (fun k => laws_heldIntS.l0 k (mrow n m) ((m + i : Nat) : Int) (i : Int)) ((m + n : Nat) : Int) := by
    intro d
    induction d with
    | zero =>
      intro i hi hd
      obtain rfl : i = n := by omega
      refine Ev.step (f := fun _ => some ((m + i : Nat) : Int)) (fun k => ?_) (Ev.now _)
      simp only [laws_heldIntS.l0]
      rw [if_neg (by rw [mrow_length]; omega)]
    | succ d ih =>
      intro i hi hd
      refine Ev.step (fun k => ?_) (ih (i + 1) (by omega) (by omega))
      have hi2 : i < (mrow n m).length := by rw [mrow_length]; omega
      simp only [laws_heldIntS.l0]
      rw [if_pos (by omega), if_pos (by omega), rdI_nat hi2, if_pos (by simp [mrow]), wsucc (by omega), wsucc (by omega)]
      rfl
  exact key n 0 (by omega) (by omega)
theorem heldSS_ev (l : List (List Int)) (m : Nat) (hl : m + sumLen l ≤ 4611686018427387904) (hn : l.length ≤ 4611686018427387904) : Ev (fun k => laws_heldIntSS.f k (mrows l m) (m : Int)) ((m + sumLen l : Nat) : Int) := by
  have key : ∀ (B : List (List Int)) (A : List (List Int)) (m i : Nat), A.length = i → i + B.length ≤ 4611686018427387904 → m + sumLen B ≤ 4611686018427387904 → Ev (fun k => laws_heldIntSS.l0 k (A ++ mrows B m) ((m : Nat) : Int) (i : Int)) ((m + sumLen B : Nat) : Int) := by
    intro B
    induction B with
    | nil =>
      intro A m i h hb hs
      refine Ev.step (f := fun _ => some ((m : Nat) : Int)) (fun k => ?_) (by simpa [sumLen] using Ev.now _)
      simp only [laws_heldIntSS.l0]
      rw [if_neg (by simp [mrows]; omega)]
    | cons x B ih =>
      intro A m i h hb hs
      simp only [sumLen] at hs
      simp only [List.length_cons] at hb
      have z := ih (A ++ [mrow x.length m]) (m + x.length) (i + 1) (by simp [h]) (by omega) (by omega)
      have r : rd_L1 (A ++ mrows (x :: B) m) (i : Int) = mrow x.length m := by rw [← h]; exact rdL_mid A _ _
      refine Ev.step (f := fun k => (laws_heldIntS.f k (mrow x.length m) (m : Int)).bind fun t => if t < 0 then some (-1) else laws_heldIntSS.l0 k (A ++ mrows (x :: B) m) t ((i + 1 : Nat) : Int)) (fun k => ?_) (Ev.bind (heldI_ev x.length m (by omega)) (Ev.neg (by omega) ?_))
      · simp only [laws_heldIntSS.l0]
        rw [if_pos (by simp [mrows]; omega), if_pos (by omega), r, wsucc (by omega)]
      · simpa [sumLen, mrows, Nat.add_assoc] using z
  have z := key l [] m 0 rfl (by omega) hl
  unfold laws_heldIntSS.f
  simpa using z

set_option maxHeartbeats 8000000 in
set_option maxRecDepth 100000 in
theorem FnExactInvM_walkA (k : Nat) (A0 : Option Addr) (c0 : Nat) (l0 : List (List Int)) (R1 : Int) (w : World) (hr0 : Kd.C (Kd.slice 3 (Kd.int .i64)) w A0 l0.length l0) (hc0 : l0.length ≤ c0) (hR1 : decide (R1 < 0) = true) (hh1 : laws_szIntSS.f k l0 1048576 = some R1) :
    Calls Try.prog 9 #[.slice A0 l0.length c0] w fun e w' => e = .returned (.bool true) ∧ Below w.heap.size w w' := by
  have HB := Below.refl w.heap.size w
  go_enter Try.func9, Try.ntmps9
  go_wp2_with (first | ((with_reducible refine gate_callee (f := 11) rfl ?_); refine goesL_ (some 16) rfl rfl Try.func11 (by kernel_rfl) rfl #[.slice A0 (l0).length c0, .int .i64 1048576] rfl (by (try simp only [List.map_toArray, List.map_cons, List.map_nil]); first | done | rfl) ?_; (with_reducible refine (laws_szIntSS.calls k _ _ (l0) (1048576) (R1) _ ?side1 ?side2 hh1).mono ?_); (case side1 => repeat (first | exact Kd.C_below hr0 HB | (with_reducible refine Kd.C_alloc ?_ _) | (with_reducible refine Kd.C_drewN ?_ _) | (with_reducible refine Kd.C_drew ?_))); (case side2 => exact hc0); rintro e w1 ⟨rfl, hd⟩; refine ⟨_, rfl, ?_⟩; have hb := hd.below; have HB := below_step (by repeat (first | (with_reducible first | exact HB | apply below_alloc | apply pw_below_drewN | apply below_drew1) | exact HB)) hb; have hz1 : w.heap.size ≤ w1.heap.size := hb.size; clear hb))
  go_ret
  exact ⟨rfl, by repeat (first | (with_reducible first | exact HB | apply below_alloc | apply pw_below_drewN | apply below_drew1) | exact HB)⟩

set_option maxHeartbeats 8000000 in
set_option maxRecDepth 100000 in
theorem FnExactInvM_walkC (k : Nat) (A0 : Option Addr) (c0 : Nat) (l0 : List (List Int)) (R1 : Int) (r l0' r' : List (List Int)) (b : Bool) (M1 M : Int) (w : World) (hr0 : Kd.C (Kd.slice 3 (Kd.int .i64)) w A0 l0.length l0) (hc0 : l0.length ≤ c0) (hR1 : decide (R1 < 0) = false) (hM1 : decide (M1 < 0) = false) (hM : decide (M < 0) = false) (hl : r'.length = r.length) (hbb : (b != b) = false) (hh1 : laws_szIntSS.f k l0 1048576 = some R1) (hh2 : laws_toIntSS.f k l0 = some l0) (hh3 : spec_InvM.f k l0 = some ((r, b))) (hh5 : impl_InvM.f l0 = some ((r, b))) (hh6 : laws_eqIntSS.f k r r = some true) (hh8 : laws_eqIntSS.f k l0 l0 = some true) (hh9 : laws_markIntSS.f k l0 1 = some ((M1, l0'))) (hh11 : laws_markIntSS.f k r 1 = some ((M, r'))) (hh12 : laws_heldIntSS.f k r' 1 = some M) :
    Calls Try.prog 9 #[.slice A0 l0.length c0] w fun e w' => e = .returned (.bool true) ∧ Below w.heap.size w w' := by
  have HB := Below.refl w.heap.size w
  go_enter Try.func9, Try.ntmps9
  go_wp2_with (first | ((with_reducible refine gate_callee (f := 11) rfl ?_); refine goesL_ (some 16) rfl rfl Try.func11 (by kernel_rfl) rfl #[.slice A0 (l0).length c0, .int .i64 1048576] rfl (by (try simp only [List.map_toArray, List.map_cons, List.map_nil]); first | done | rfl | (rw [hl]; rfl) | (rw [← hl]; rfl)) ?_; (with_reducible refine (laws_szIntSS.calls k _ _ (l0) (1048576) (R1) _ ?side1 ?side2 hh1).mono ?_); (case side1 => repeat (first | exact Kd.C_below hr0 HB | (with_reducible refine Kd.C_alloc ?_ _) | (with_reducible refine Kd.C_drewN ?_ _) | (with_reducible refine Kd.C_drew ?_))); (case side2 => exact hc0); rintro e w1 ⟨rfl, hd⟩; refine ⟨_, rfl, ?_⟩; have hb := hd.below; have HB := below_step (by repeat (first | (with_reducible first | exact HB | apply below_alloc | apply pw_below_drewN | apply below_drew1) | exact HB)) hb; have hz1 : w.heap.size ≤ w1.heap.size := hb.size; clear hb) | ((with_reducible refine gate_callee (f := 13) rfl ?_); refine goesL_ (some 21) rfl rfl Try.func13 (by kernel_rfl) rfl #[.slice A0 (l0).length c0] rfl (by (try simp only [List.map_toArray, List.map_cons, List.map_nil]); first | done | rfl | (rw [hl]; rfl) | (rw [← hl]; rfl)) ?_; (with_reducible refine (laws_toIntSS.calls k _ _ (l0) (l0) _ ?side1 ?side2 hh2).mono ?_); (case side1 => repeat (first | exact Kd.C_below hr0 HB | (with_reducible refine Kd.C_alloc ?_ _) | (with_reducible refine Kd.C_drewN ?_ _) | (with_reducible refine Kd.C_drew ?_))); (case side2 => exact hc0); rintro e w2 ⟨v, rfl, ho, hb⟩; obtain ⟨A2, c2, rfl⟩ := Kd.S_slice ho; refine ⟨_, rfl, ?_⟩; have hs2 := Kd.S_lower (Kd.S_mono (ok' := fun k_ => w1.heap.size ≤ k_ ∧ k_ < w2.heap.size) (Kd.S_bound ho) (fun k_ hk_ => ⟨hk_.2.1, hk_.2.2.1⟩)) (show w.heap.size ≤ w1.heap.size from HB.size); clear ho; have HB := below_step (by repeat (first | (with_reducible first | exact HB | apply below_alloc | apply pw_below_drewN | apply below_drew1) | exact HB)) hb; have hz2 : w1.heap.size ≤ w2.heap.size := hb.size; clear hb) | ((with_reducible refine gate_callee (f := 32) rfl ?_); refine goesL_ (some 22) rfl rfl Try.func32 (by kernel_rfl) rfl #[.slice A2 (l0).length c2] rfl (by (try simp only [List.map_toArray, List.map_cons, List.map_nil]); first | done | rfl | (rw [hl]; rfl) | (rw [← hl]; rfl)) ?_; (with_reducible refine (spec_InvM.calls k _ _ (l0) (r) (b) _ ?side1 ?side2 hh3).mono ?_); (case side1 => repeat (first | exact (Kd.S_reads' hs2).2.2 | (with_reducible refine Kd.C_alloc ?_ _) | (with_reducible refine Kd.C_drewN ?_ _) | (with_reducible refine Kd.C_drew ?_))); (case side2 => have h_ := (Kd.S_reads' hs2).2.1; have e_ := (Kd.S_reads' hs2).1; omega); rintro e w3 ⟨v, rfl, ho, hb⟩; obtain ⟨A3, c3, rfl⟩ := Kd.N_slice ho; refine ⟨_, rfl, ?_⟩; have hs2 := Kd.S_below (by (with_reducible repeat (first | apply Kd.S_alloc | apply Kd.S_drewN | apply Kd.S_drew)); exact hs2) hb; have hs3 := Kd.N_lower (Kd.N_mono (ok' := fun k_ => w2.heap.size ≤ k_ ∧ k_ < w3.heap.size) (Kd.N_bound ho) (fun k_ hk_ => ⟨hk_.1, hk_.2⟩)) (show w.heap.size ≤ w2.heap.size from HB.size); clear ho; have HB := below_step (by repeat (first | (with_reducible first | exact HB | apply below_alloc | apply pw_below_drewN | apply below_drew1) | exact HB)) hb; have hz3 : w2.heap.size ≤ w3.heap.size := hb.size; clear hb) | ((with_reducible refine gate_callee (f := 13) rfl ?_); refine goesL_ (some 26) rfl rfl Try.func13 (by kernel_rfl) rfl #[.slice A0 (l0).length c0] rfl (by (try simp only [List.map_toArray, List.map_cons, List.map_nil]); first | done | rfl | (rw [hl]; rfl) | (rw [← hl]; rfl)) ?_; (with_reducible refine (laws_toIntSS.calls k _ _ (l0) (l0) _ ?side1 ?side2 hh2).mono ?_); (case side1 => repeat (first | exact Kd.C_below hr0 HB | (with_reducible refine Kd.C_alloc ?_ _) | (with_reducible refine Kd.C_drewN ?_ _) | (with_reducible refine Kd.C_drew ?_))); (case side2 => exact hc0); rintro e w4 ⟨v, rfl, ho, hb⟩; obtain ⟨A4, c4, rfl⟩ := Kd.S_slice ho; refine ⟨_, rfl, ?_⟩; have hs2 := Kd.S_below (by (with_reducible repeat (first | apply Kd.S_alloc | apply Kd.S_drewN | apply Kd.S_drew)); exact hs2) hb; have hs3 := Kd.N_below (by (with_reducible repeat (first | apply Kd.N_alloc | apply Kd.N_drewN | apply Kd.N_drew)); exact hs3) hb; have hs4 := Kd.S_lower (Kd.S_mono (ok' := fun k_ => w3.heap.size ≤ k_ ∧ k_ < w4.heap.size) (Kd.S_bound ho) (fun k_ hk_ => ⟨hk_.2.1, hk_.2.2.1⟩)) (show w.heap.size ≤ w3.heap.size from HB.size); clear ho; have HB := below_step (by repeat (first | (with_reducible first | exact HB | apply below_alloc | apply pw_below_drewN | apply below_drew1) | exact HB)) hb; have hz4 : w3.heap.size ≤ w4.heap.size := hb.size; clear hb) | ((with_reducible refine gate_callee (f := 35) rfl ?_); refine goesL_ (some 29) rfl rfl Try.func35 (by kernel_rfl) rfl #[.slice A4 (l0).length c4] rfl (by (try simp only [List.map_toArray, List.map_cons, List.map_nil]); first | done | rfl | (rw [hl]; rfl) | (rw [← hl]; rfl)) ?_; (with_reducible refine (impl_InvM.calls _ _ (l0) (r) (b) _ ?side1 ?side2 hh5).mono ?_); (case side1 => repeat (first | exact (Kd.S_reads' hs4).2.2 | (with_reducible refine Kd.C_alloc ?_ _) | (with_reducible refine Kd.C_drewN ?_ _) | (with_reducible refine Kd.C_drew ?_))); (case side2 => have h_ := (Kd.S_reads' hs4).2.1; have e_ := (Kd.S_reads' hs4).1; omega); rintro e w5 ⟨v, rfl, ho, hb⟩; obtain ⟨A5, c5, rfl⟩ := Kd.S_slice ho; refine ⟨_, rfl, ?_⟩; have hs2 := Kd.S_below (by (with_reducible repeat (first | apply Kd.S_alloc | apply Kd.S_drewN | apply Kd.S_drew)); exact hs2) hb; have hs3 := Kd.N_below (by (with_reducible repeat (first | apply Kd.N_alloc | apply Kd.N_drewN | apply Kd.N_drew)); exact hs3) hb; have hs4 := Kd.S_below (by (with_reducible repeat (first | apply Kd.S_alloc | apply Kd.S_drewN | apply Kd.S_drew)); exact hs4) hb; have hs5 := Kd.S_lower (Kd.S_mono (ok' := fun k_ => w4.heap.size ≤ k_ ∧ k_ < w5.heap.size) (Kd.S_bound ho) (fun k_ hk_ => ⟨hk_.2.1, hk_.2.2.1⟩)) (show w.heap.size ≤ w4.heap.size from HB.size); clear ho; have HB := below_step (by repeat (first | (with_reducible first | exact HB | apply below_alloc | apply pw_below_drewN | apply below_drew1) | exact HB)) hb; have hz5 : w4.heap.size ≤ w5.heap.size := hb.size; clear hb) | ((with_reducible refine gate_callee (f := 15) rfl ?_); refine goesL_ (some 34) rfl rfl Try.func15 (by kernel_rfl) rfl #[.slice A5 (r).length c5, .slice A3 (r).length c3] rfl (by (try simp only [List.map_toArray, List.map_cons, List.map_nil]); first | done | rfl | (rw [hl]; rfl) | (rw [← hl]; rfl)) ?_; (with_reducible refine (laws_eqIntSS.calls k _ _ (r) _ _ (r) (true) _ ?side1 ?side2 ?side3 ?side4 hh6).mono ?_); (case side1 => repeat (first | exact (Kd.S_reads' hs5).2.2 | (with_reducible refine Kd.C_alloc ?_ _) | (with_reducible refine Kd.C_drewN ?_ _) | (with_reducible refine Kd.C_drew ?_))); (case side2 => have h_ := (Kd.S_reads' hs5).2.1; have e_ := (Kd.S_reads' hs5).1; omega); (case side3 => repeat (first | exact (Kd.N_reads' hs3).2.2 | (with_reducible refine Kd.C_alloc ?_ _) | (with_reducible refine Kd.C_drewN ?_ _) | (with_reducible refine Kd.C_drew ?_))); (case side4 => have h_ := (Kd.N_reads' hs3).2.1; have e_ := (Kd.N_reads' hs3).1; omega); rintro e w6 ⟨rfl, hd⟩; refine ⟨_, rfl, ?_⟩; have hb := hd.below; have hs2 := Kd.S_below (by (with_reducible repeat (first | apply Kd.S_alloc | apply Kd.S_drewN | apply Kd.S_drew)); exact hs2) hb; have hs3 := Kd.N_below (by (with_reducible repeat (first | apply Kd.N_alloc | apply Kd.N_drewN | apply Kd.N_drew)); exact hs3) hb; have hs4 := Kd.S_below (by (with_reducible repeat (first | apply Kd.S_alloc | apply Kd.S_drewN | apply Kd.S_drew)); exact hs4) hb; have hs5 := Kd.S_below (by (with_reducible repeat (first | apply Kd.S_alloc | apply Kd.S_drewN | apply Kd.S_drew)); exact hs5) hb; have HB := below_step (by repeat (first | (with_reducible first | exact HB | apply below_alloc | apply pw_below_drewN | apply below_drew1) | exact HB)) hb; have hz6 : w5.heap.size ≤ w6.heap.size := hb.size; clear hb) | ((with_reducible refine gate_callee (f := 13) rfl ?_); refine goesL_ (some 43) rfl rfl Try.func13 (by kernel_rfl) rfl #[.slice A0 (l0).length c0] rfl (by (try simp only [List.map_toArray, List.map_cons, List.map_nil]); first | done | rfl | (rw [hl]; rfl) | (rw [← hl]; rfl)) ?_; (with_reducible refine (laws_toIntSS.calls k _ _ (l0) (l0) _ ?side1 ?side2 hh2).mono ?_); (case side1 => repeat (first | exact Kd.C_below hr0 HB | (with_reducible refine Kd.C_alloc ?_ _) | (with_reducible refine Kd.C_drewN ?_ _) | (with_reducible refine Kd.C_drew ?_))); (case side2 => exact hc0); rintro e w7 ⟨v, rfl, ho, hb⟩; obtain ⟨A7, c7, rfl⟩ := Kd.S_slice ho; refine ⟨_, rfl, ?_⟩; have hs2 := Kd.S_below (by (with_reducible repeat (first | apply Kd.S_alloc | apply Kd.S_drewN | apply Kd.S_drew)); exact hs2) hb; have hs3 := Kd.N_below (by (with_reducible repeat (first | apply Kd.N_alloc | apply Kd.N_drewN | apply Kd.N_drew)); exact hs3) hb; have hs4 := Kd.S_below (by (with_reducible repeat (first | apply Kd.S_alloc | apply Kd.S_drewN | apply Kd.S_drew)); exact hs4) hb; have hs5 := Kd.S_below (by (with_reducible repeat (first | apply Kd.S_alloc | apply Kd.S_drewN | apply Kd.S_drew)); exact hs5) hb; have hs7 := Kd.S_lower (Kd.S_mono (ok' := fun k_ => w6.heap.size ≤ k_ ∧ k_ < w7.heap.size) (Kd.S_bound ho) (fun k_ hk_ => ⟨hk_.2.1, hk_.2.2.1⟩)) (show w.heap.size ≤ w6.heap.size from HB.size); clear ho; have HB := below_step (by repeat (first | (with_reducible first | exact HB | apply below_alloc | apply pw_below_drewN | apply below_drew1) | exact HB)) hb; have hz7 : w6.heap.size ≤ w7.heap.size := hb.size; clear hb) | ((with_reducible refine gate_callee (f := 15) rfl ?_); refine goesL_ (some 44) rfl rfl Try.func15 (by kernel_rfl) rfl #[.slice A4 (l0).length c4, .slice A7 (l0).length c7] rfl (by (try simp only [List.map_toArray, List.map_cons, List.map_nil]); first | done | rfl | (rw [hl]; rfl) | (rw [← hl]; rfl)) ?_; (with_reducible refine (laws_eqIntSS.calls k _ _ (l0) _ _ (l0) (true) _ ?side1 ?side2 ?side3 ?side4 hh8).mono ?_); (case side1 => repeat (first | exact (Kd.S_reads' hs4).2.2 | (with_reducible refine Kd.C_alloc ?_ _) | (with_reducible refine Kd.C_drewN ?_ _) | (with_reducible refine Kd.C_drew ?_))); (case side2 => have h_ := (Kd.S_reads' hs4).2.1; have e_ := (Kd.S_reads' hs4).1; omega); (case side3 => repeat (first | exact (Kd.S_reads' hs7).2.2 | (with_reducible refine Kd.C_alloc ?_ _) | (with_reducible refine Kd.C_drewN ?_ _) | (with_reducible refine Kd.C_drew ?_))); (case side4 => have h_ := (Kd.S_reads' hs7).2.1; have e_ := (Kd.S_reads' hs7).1; omega); rintro e w8 ⟨rfl, hd⟩; refine ⟨_, rfl, ?_⟩; have hb := hd.below; have hs2 := Kd.S_below (by (with_reducible repeat (first | apply Kd.S_alloc | apply Kd.S_drewN | apply Kd.S_drew)); exact hs2) hb; have hs3 := Kd.N_below (by (with_reducible repeat (first | apply Kd.N_alloc | apply Kd.N_drewN | apply Kd.N_drew)); exact hs3) hb; have hs4 := Kd.S_below (by (with_reducible repeat (first | apply Kd.S_alloc | apply Kd.S_drewN | apply Kd.S_drew)); exact hs4) hb; have hs5 := Kd.S_below (by (with_reducible repeat (first | apply Kd.S_alloc | apply Kd.S_drewN | apply Kd.S_drew)); exact hs5) hb; have hs7 := Kd.S_below (by (with_reducible repeat (first | apply Kd.S_alloc | apply Kd.S_drewN | apply Kd.S_drew)); exact hs7) hb; have HB := below_step (by repeat (first | (with_reducible first | exact HB | apply below_alloc | apply pw_below_drewN | apply below_drew1) | exact HB)) hb; have hz8 : w7.heap.size ≤ w8.heap.size := hb.size; clear hb) | ((with_reducible refine gate_callee (f := 22) rfl ?_); refine goesL_ (some 48) rfl rfl Try.func22 (by kernel_rfl) rfl #[.slice A4 (l0).length c4, .int .i64 1] rfl (by (try simp only [List.map_toArray, List.map_cons, List.map_nil]); first | done | rfl | (rw [hl]; rfl) | (rw [← hl]; rfl)) ?_; (with_reducible refine (laws_markIntSS.calls k (fun k_ => w3.heap.size ≤ k_ ∧ k_ < w4.heap.size) (.slice A4 (l0).length c4) (l0) (1) (M1) (l0') w _ ?side1 ?side2 hh9).mono ?_); (case side1 => exact (by repeat (first | (with_reducible first | exact HB | apply below_alloc | apply pw_below_drewN | apply below_drew1) | exact HB))); (case side2 => (with_reducible repeat (first | apply Kd.S_alloc | apply Kd.S_drewN | apply Kd.S_drew)); exact hs4); rintro e w9 ⟨rfl, hm, hb, hkp⟩; refine ⟨_, rfl, ?_⟩; have hs2 := Kd.S_kept (by (with_reducible repeat (first | apply Kd.S_alloc | apply Kd.S_drewN | apply Kd.S_drew)); exact hs2) hkp (fun k_ hk_ hs_ => by have h1_ := hk_.1; have h2_ := hk_.2; have h3_ := hs_.1; have h4_ := hs_.2; omega); have hs3 := Kd.N_kept (by (with_reducible repeat (first | apply Kd.N_alloc | apply Kd.N_drewN | apply Kd.N_drew)); exact hs3) hkp (fun k_ hk_ hs_ => by have h1_ := hk_.1; have h2_ := hk_.2; have h3_ := hs_.1; have h4_ := hs_.2; omega); have hs5 := Kd.S_kept (by (with_reducible repeat (first | apply Kd.S_alloc | apply Kd.S_drewN | apply Kd.S_drew)); exact hs5) hkp (fun k_ hk_ hs_ => by have h1_ := hk_.1; have h2_ := hk_.2; have h3_ := hs_.1; have h4_ := hs_.2; omega); have hs7 := Kd.S_kept (by (with_reducible repeat (first | apply Kd.S_alloc | apply Kd.S_drewN | apply Kd.S_drew)); exact hs7) hkp (fun k_ hk_ hs_ => by have h1_ := hk_.1; have h2_ := hk_.2; have h3_ := hs_.1; have h4_ := hs_.2; omega); have hs4 := hm; have HB := hb; have hz9 : w8.heap.size ≤ w9.heap.size := hkp.1; clear hm hb hkp) | (go_at_call 15; (with_reducible refine (laws_eqIntSS.calls k _ _ (r) _ _ (r) (true) _ ?side1 ?side2 ?side3 ?side4 hh6).mono ?_); (case side1 => repeat (first | exact (Kd.S_reads' hs5).2.2 | (with_reducible refine Kd.C_alloc ?_ _) | (with_reducible refine Kd.C_drewN ?_ _) | (with_reducible refine Kd.C_drew ?_))); (case side2 => have h_ := (Kd.S_reads' hs5).2.1; have e_ := (Kd.S_reads' hs5).1; omega); (case side3 => repeat (first | exact (Kd.N_reads' hs3).2.2 | (with_reducible refine Kd.C_alloc ?_ _) | (with_reducible refine Kd.C_drewN ?_ _) | (with_reducible refine Kd.C_drew ?_))); (case side4 => have h_ := (Kd.N_reads' hs3).2.1; have e_ := (Kd.N_reads' hs3).1; omega); rintro e w10 ⟨rfl, hd⟩; have hb := hd.below; have hs2 := Kd.S_below (by (with_reducible repeat (first | apply Kd.S_alloc | apply Kd.S_drewN | apply Kd.S_drew)); exact hs2) hb; have hs3 := Kd.N_below (by (with_reducible repeat (first | apply Kd.N_alloc | apply Kd.N_drewN | apply Kd.N_drew)); exact hs3) hb; have hs4 := Kd.S_below (by (with_reducible repeat (first | apply Kd.S_alloc | apply Kd.S_drewN | apply Kd.S_drew)); exact hs4) hb; have hs5 := Kd.S_below (by (with_reducible repeat (first | apply Kd.S_alloc | apply Kd.S_drewN | apply Kd.S_drew)); exact hs5) hb; have hs7 := Kd.S_below (by (with_reducible repeat (first | apply Kd.S_alloc | apply Kd.S_drewN | apply Kd.S_drew)); exact hs7) hb; have HB := below_step (by repeat (first | (with_reducible first | exact HB | apply below_alloc | apply pw_below_drewN | apply below_drew1) | exact HB)) hb; have hz10 : w9.heap.size ≤ w10.heap.size := hb.size; clear hb) | ((with_reducible refine gate_callee (f := 22) rfl ?_); refine goesL_ (some 64) rfl rfl Try.func22 (by kernel_rfl) rfl #[.slice A5 (r).length c5, .int .i64 1] rfl (by (try simp only [List.map_toArray, List.map_cons, List.map_nil]); first | done | rfl | (rw [hl]; rfl) | (rw [← hl]; rfl)) ?_; (with_reducible refine (laws_markIntSS.calls k (fun k_ => w4.heap.size ≤ k_ ∧ k_ < w5.heap.size) (.slice A5 (r).length c5) (r) (1) (M) (r') w _ ?side1 ?side2 hh11).mono ?_); (case side1 => exact (by repeat (first | (with_reducible first | exact HB | apply below_alloc | apply pw_below_drewN | apply below_drew1) | exact HB))); (case side2 => (with_reducible repeat (first | apply Kd.S_alloc | apply Kd.S_drewN | apply Kd.S_drew)); exact hs5); rintro e w11 ⟨rfl, hm, hb, hkp⟩; refine ⟨_, rfl, ?_⟩; have hs2 := Kd.S_kept (by (with_reducible repeat (first | apply Kd.S_alloc | apply Kd.S_drewN | apply Kd.S_drew)); exact hs2) hkp (fun k_ hk_ hs_ => by have h1_ := hk_.1; have h2_ := hk_.2; have h3_ := hs_.1; have h4_ := hs_.2; omega); have hs3 := Kd.N_kept (by (with_reducible repeat (first | apply Kd.N_alloc | apply Kd.N_drewN | apply Kd.N_drew)); exact hs3) hkp (fun k_ hk_ hs_ => by have h1_ := hk_.1; have h2_ := hk_.2; have h3_ := hs_.1; have h4_ := hs_.2; omega); have hs4 := Kd.S_kept (by (with_reducible repeat (first | apply Kd.S_alloc | apply Kd.S_drewN | apply Kd.S_drew)); exact hs4) hkp (fun k_ hk_ hs_ => by have h1_ := hk_.1; have h2_ := hk_.2; have h3_ := hs_.1; have h4_ := hs_.2; omega); have hs7 := Kd.S_kept (by (with_reducible repeat (first | apply Kd.S_alloc | apply Kd.S_drewN | apply Kd.S_drew)); exact hs7) hkp (fun k_ hk_ hs_ => by have h1_ := hk_.1; have h2_ := hk_.2; have h3_ := hs_.1; have h4_ := hs_.2; omega); have hs5 := hm; have HB := hb; have hz11 : w10.heap.size ≤ w11.heap.size := hkp.1; clear hm hb hkp) | ((with_reducible refine gate_callee (f := 23) rfl ?_); refine goesL_ (some 67) rfl rfl Try.func23 (by kernel_rfl) rfl #[.slice A5 (r').length c5, .int .i64 1] rfl (by (try simp only [List.map_toArray, List.map_cons, List.map_nil]); first | done | rfl | (rw [hl]; rfl) | (rw [← hl]; rfl)) ?_; (with_reducible refine (laws_heldIntSS.calls k _ _ (r') (1) (M) _ ?side1 ?side2 hh12).mono ?_); (case side1 => repeat (first | exact (Kd.S_reads' hs5).2.2 | (with_reducible refine Kd.C_alloc ?_ _) | (with_reducible refine Kd.C_drewN ?_ _) | (with_reducible refine Kd.C_drew ?_))); (case side2 => have h_ := (Kd.S_reads' hs5).2.1; have e_ := (Kd.S_reads' hs5).1; omega); rintro e w12 ⟨rfl, hd⟩; refine ⟨_, rfl, ?_⟩; have hb := hd.below; have hs2 := Kd.S_below (by (with_reducible repeat (first | apply Kd.S_alloc | apply Kd.S_drewN | apply Kd.S_drew)); exact hs2) hb; have hs3 := Kd.N_below (by (with_reducible repeat (first | apply Kd.N_alloc | apply Kd.N_drewN | apply Kd.N_drew)); exact hs3) hb; have hs4 := Kd.S_below (by (with_reducible repeat (first | apply Kd.S_alloc | apply Kd.S_drewN | apply Kd.S_drew)); exact hs4) hb; have hs5 := Kd.S_below (by (with_reducible repeat (first | apply Kd.S_alloc | apply Kd.S_drewN | apply Kd.S_drew)); exact hs5) hb; have hs7 := Kd.S_below (by (with_reducible repeat (first | apply Kd.S_alloc | apply Kd.S_drewN | apply Kd.S_drew)); exact hs7) hb; have HB := below_step (by repeat (first | (with_reducible first | exact HB | apply below_alloc | apply pw_below_drewN | apply below_drew1) | exact HB)) hb; have hz12 : w11.heap.size ≤ w12.heap.size := hb.size; clear hb) | ((with_reducible refine gate_callee (f := 13) rfl ?_); refine goesL_ (some 75) rfl rfl Try.func13 (by kernel_rfl) rfl #[.slice A0 (l0).length c0] rfl (by (try simp only [List.map_toArray, List.map_cons, List.map_nil]); first | done | rfl | (rw [hl]; rfl) | (rw [← hl]; rfl)) ?_; (with_reducible refine (laws_toIntSS.calls k _ _ (l0) (l0) _ ?side1 ?side2 hh2).mono ?_); (case side1 => repeat (first | exact Kd.C_below hr0 HB | (with_reducible refine Kd.C_alloc ?_ _) | (with_reducible refine Kd.C_drewN ?_ _) | (with_reducible refine Kd.C_drew ?_))); (case side2 => exact hc0); rintro e w13 ⟨v, rfl, ho, hb⟩; obtain ⟨A13, c13, rfl⟩ := Kd.S_slice ho; refine ⟨_, rfl, ?_⟩; have hs2 := Kd.S_below (by (with_reducible repeat (first | apply Kd.S_alloc | apply Kd.S_drewN | apply Kd.S_drew)); exact hs2) hb; have hs3 := Kd.N_below (by (with_reducible repeat (first | apply Kd.N_alloc | apply Kd.N_drewN | apply Kd.N_drew)); exact hs3) hb; have hs4 := Kd.S_below (by (with_reducible repeat (first | apply Kd.S_alloc | apply Kd.S_drewN | apply Kd.S_drew)); exact hs4) hb; have hs5 := Kd.S_below (by (with_reducible repeat (first | apply Kd.S_alloc | apply Kd.S_drewN | apply Kd.S_drew)); exact hs5) hb; have hs7 := Kd.S_below (by (with_reducible repeat (first | apply Kd.S_alloc | apply Kd.S_drewN | apply Kd.S_drew)); exact hs7) hb; have hs13 := Kd.S_lower (Kd.S_mono (ok' := fun k_ => w12.heap.size ≤ k_ ∧ k_ < w13.heap.size) (Kd.S_bound ho) (fun k_ hk_ => ⟨hk_.2.1, hk_.2.2.1⟩)) (show w.heap.size ≤ w12.heap.size from HB.size); clear ho; have HB := below_step (by repeat (first | (with_reducible first | exact HB | apply below_alloc | apply pw_below_drewN | apply below_drew1) | exact HB)) hb; have hz13 : w12.heap.size ≤ w13.heap.size := hb.size; clear hb) | ((with_reducible refine gate_callee (f := 35) rfl ?_); refine goesL_ (some 76) rfl rfl Try.func35 (by kernel_rfl) rfl #[.slice A13 (l0).length c13] rfl (by (try simp only [List.map_toArray, List.map_cons, List.map_nil]); first | done | rfl | (rw [hl]; rfl) | (rw [← hl]; rfl)) ?_; (with_reducible refine (impl_InvM.calls _ _ (l0) (r) (b) _ ?side1 ?side2 hh5).mono ?_); (case side1 => repeat (first | exact (Kd.S_reads' hs13).2.2 | (with_reducible refine Kd.C_alloc ?_ _) | (with_reducible refine Kd.C_drewN ?_ _) | (with_reducible refine Kd.C_drew ?_))); (case side2 => have h_ := (Kd.S_reads' hs13).2.1; have e_ := (Kd.S_reads' hs13).1; omega); rintro e w14 ⟨v, rfl, ho, hb⟩; obtain ⟨A14, c14, rfl⟩ := Kd.S_slice ho; refine ⟨_, rfl, ?_⟩; have hs2 := Kd.S_below (by (with_reducible repeat (first | apply Kd.S_alloc | apply Kd.S_drewN | apply Kd.S_drew)); exact hs2) hb; have hs3 := Kd.N_below (by (with_reducible repeat (first | apply Kd.N_alloc | apply Kd.N_drewN | apply Kd.N_drew)); exact hs3) hb; have hs4 := Kd.S_below (by (with_reducible repeat (first | apply Kd.S_alloc | apply Kd.S_drewN | apply Kd.S_drew)); exact hs4) hb; have hs5 := Kd.S_below (by (with_reducible repeat (first | apply Kd.S_alloc | apply Kd.S_drewN | apply Kd.S_drew)); exact hs5) hb; have hs7 := Kd.S_below (by (with_reducible repeat (first | apply Kd.S_alloc | apply Kd.S_drewN | apply Kd.S_drew)); exact hs7) hb; have hs13 := Kd.S_below (by (with_reducible repeat (first | apply Kd.S_alloc | apply Kd.S_drewN | apply Kd.S_drew)); exact hs13) hb; have hs14 := Kd.S_lower (Kd.S_mono (ok' := fun k_ => w13.heap.size ≤ k_ ∧ k_ < w14.heap.size) (Kd.S_bound ho) (fun k_ hk_ => ⟨hk_.2.1, hk_.2.2.1⟩)) (show w.heap.size ≤ w13.heap.size from HB.size); clear ho; have HB := below_step (by repeat (first | (with_reducible first | exact HB | apply below_alloc | apply pw_below_drewN | apply below_drew1) | exact HB)) hb; have hz14 : w13.heap.size ≤ w14.heap.size := hb.size; clear hb) | ((with_reducible refine gate_callee (f := 15) rfl ?_); refine goesL_ (some 81) rfl rfl Try.func15 (by kernel_rfl) rfl #[.slice A14 (r).length c14, .slice A3 (r).length c3] rfl (by (try simp only [List.map_toArray, List.map_cons, List.map_nil]); first | done | rfl | (rw [hl]; rfl) | (rw [← hl]; rfl)) ?_; (with_reducible refine (laws_eqIntSS.calls k _ _ (r) _ _ (r) (true) _ ?side1 ?side2 ?side3 ?side4 hh6).mono ?_); (case side1 => repeat (first | exact (Kd.S_reads' hs14).2.2 | (with_reducible refine Kd.C_alloc ?_ _) | (with_reducible refine Kd.C_drewN ?_ _) | (with_reducible refine Kd.C_drew ?_))); (case side2 => have h_ := (Kd.S_reads' hs14).2.1; have e_ := (Kd.S_reads' hs14).1; omega); (case side3 => repeat (first | exact (Kd.N_reads' hs3).2.2 | (with_reducible refine Kd.C_alloc ?_ _) | (with_reducible refine Kd.C_drewN ?_ _) | (with_reducible refine Kd.C_drew ?_))); (case side4 => have h_ := (Kd.N_reads' hs3).2.1; have e_ := (Kd.N_reads' hs3).1; omega); rintro e w15 ⟨rfl, hd⟩; refine ⟨_, rfl, ?_⟩; have hb := hd.below; have hs2 := Kd.S_below (by (with_reducible repeat (first | apply Kd.S_alloc | apply Kd.S_drewN | apply Kd.S_drew)); exact hs2) hb; have hs3 := Kd.N_below (by (with_reducible repeat (first | apply Kd.N_alloc | apply Kd.N_drewN | apply Kd.N_drew)); exact hs3) hb; have hs4 := Kd.S_below (by (with_reducible repeat (first | apply Kd.S_alloc | apply Kd.S_drewN | apply Kd.S_drew)); exact hs4) hb; have hs5 := Kd.S_below (by (with_reducible repeat (first | apply Kd.S_alloc | apply Kd.S_drewN | apply Kd.S_drew)); exact hs5) hb; have hs7 := Kd.S_below (by (with_reducible repeat (first | apply Kd.S_alloc | apply Kd.S_drewN | apply Kd.S_drew)); exact hs7) hb; have hs13 := Kd.S_below (by (with_reducible repeat (first | apply Kd.S_alloc | apply Kd.S_drewN | apply Kd.S_drew)); exact hs13) hb; have hs14 := Kd.S_below (by (with_reducible repeat (first | apply Kd.S_alloc | apply Kd.S_drewN | apply Kd.S_drew)); exact hs14) hb; have HB := below_step (by repeat (first | (with_reducible first | exact HB | apply below_alloc | apply pw_below_drewN | apply below_drew1) | exact HB)) hb; have hz15 : w14.heap.size ≤ w15.heap.size := hb.size; clear hb) | ((with_reducible refine gate_callee (f := 23) rfl ?_); refine goesL_ (some 90) rfl rfl Try.func23 (by kernel_rfl) rfl #[.slice A5 (r').length c5, .int .i64 1] rfl (by (try simp only [List.map_toArray, List.map_cons, List.map_nil]); first | done | rfl | (rw [hl]; rfl) | (rw [← hl]; rfl)) ?_; (with_reducible refine (laws_heldIntSS.calls k _ _ (r') (1) (M) _ ?side1 ?side2 hh12).mono ?_); (case side1 => repeat (first | exact (Kd.S_reads' hs5).2.2 | (with_reducible refine Kd.C_alloc ?_ _) | (with_reducible refine Kd.C_drewN ?_ _) | (with_reducible refine Kd.C_drew ?_))); (case side2 => have h_ := (Kd.S_reads' hs5).2.1; have e_ := (Kd.S_reads' hs5).1; omega); rintro e w16 ⟨rfl, hd⟩; refine ⟨_, rfl, ?_⟩; have hb := hd.below; have hs2 := Kd.S_below (by (with_reducible repeat (first | apply Kd.S_alloc | apply Kd.S_drewN | apply Kd.S_drew)); exact hs2) hb; have hs3 := Kd.N_below (by (with_reducible repeat (first | apply Kd.N_alloc | apply Kd.N_drewN | apply Kd.N_drew)); exact hs3) hb; have hs4 := Kd.S_below (by (with_reducible repeat (first | apply Kd.S_alloc | apply Kd.S_drewN | apply Kd.S_drew)); exact hs4) hb; have hs5 := Kd.S_below (by (with_reducible repeat (first | apply Kd.S_alloc | apply Kd.S_drewN | apply Kd.S_drew)); exact hs5) hb; have hs7 := Kd.S_below (by (with_reducible repeat (first | apply Kd.S_alloc | apply Kd.S_drewN | apply Kd.S_drew)); exact hs7) hb; have hs13 := Kd.S_below (by (with_reducible repeat (first | apply Kd.S_alloc | apply Kd.S_drewN | apply Kd.S_drew)); exact hs13) hb; have hs14 := Kd.S_below (by (with_reducible repeat (first | apply Kd.S_alloc | apply Kd.S_drewN | apply Kd.S_drew)); exact hs14) hb; have HB := below_step (by repeat (first | (with_reducible first | exact HB | apply below_alloc | apply pw_below_drewN | apply below_drew1) | exact HB)) hb; have hz16 : w15.heap.size ≤ w16.heap.size := hb.size; clear hb))
  go_ret
  exact ⟨rfl, by repeat (first | (with_reducible first | exact HB | apply below_alloc | apply pw_below_drewN | apply below_drew1) | exact HB)⟩


theorem invR_size (m : List (List Int)) : (invR m).1.length ≤ 8 ∧ ∀ x ∈ (invR m).1, x.length ≤ 8 := by
  unfold invR
  by_cases h : okM m = true ∧ m.length = (m.headD []).length
  · rw [if_pos h]
    obtain ⟨_, a2, _⟩ := of_okM h.1
    cases gj m.length (ent m) with
    | none => exact ⟨by simp [gjRes], by simp [gjRes]⟩
    | some B =>
      refine ⟨?_, mk_rows a2⟩
      show (mk m.length m.length B).length ≤ 8
      rw [mk_length]
      exact a2
  · rw [if_neg h]
    exact ⟨by simp, by simp⟩
theorem FnExactInvM (A0 : Option Addr) (c0 : Nat) (l0 : List (List Int)) (hw0 : (Wide.WfList (Wide.WfList (Wide.WfInt .i64))) l0) (w : World)
    (hr0 : Kd.C (Kd.slice 3 (Kd.int .i64)) w A0 l0.length l0) (hc0 : l0.length ≤ c0) :
    Calls Try.prog 9 #[.slice A0 l0.length c0] w fun e w' => e = .returned (.bool true) ∧ Below w.heap.size w w' := by
  obtain ⟨R1, ⟨k1, q1⟩, p1⟩ := szIntSS_ex l0 hw0.1 (fun y hy => (hw0.2 y hy).1) 1048576 (by omega) (by omega)
  rcases p1 with c | ⟨a1, a2, a3, a4⟩
  · exact FnExactInvM_walkA k1 A0 c0 l0 R1 w hr0 hc0 (decide_eq_true c) (q1 _ (Nat.le_refl _))
  have h0 : ∀ n : Nat, 1048576 ≤ n → ∀ x ∈ l0, x.length ≤ n := fun n hn x hx => by
    have := a4 x hx
    omega
  obtain ⟨z1, z2⟩ := invR_size l0
  obtain ⟨r, b, e⟩ : ∃ r b, invR l0 = (r, b) := ⟨_, _, rfl⟩
  rw [e] at z1 z2
  replace z1 : r.length ≤ 8 := z1
  replace z2 : ∀ x ∈ r, x.length ≤ 8 := z2
  have sl := sumLen_le z2
  have s0 := sumLen_le (h0 1048576 (Nat.le_refl _))
  have m0 : l0.length * 1048576 ≤ 1048576 * 1048576 := Nat.mul_le_mul_right _ (by omega)
  obtain ⟨k3, q3⟩ := toIntSS_ev l0 (by omega) (h0 _ (by omega)) (by omega)
  obtain ⟨k5, q5⟩ := spec_InvM_ev l0 (by omega) (h0 _ (by omega))
  have q6 : impl_InvM.f l0 = some (r, b) := by
    unfold impl_InvM.f
    rw [if_pos (sizeOk_iff.mpr ⟨by omega, h0 _ (by omega)⟩), e]
  rw [e] at q5
  obtain ⟨k7, q7⟩ := eqIntSS_ev r (by omega) (fun x hx => by have := z2 x hx; omega)
  obtain ⟨k8, q8⟩ := eqIntSS_ev l0 (by omega) (h0 _ (by omega))
  obtain ⟨k10, q10⟩ := markSS_ev l0 1 (by omega) (by omega)
  obtain ⟨k12, q12⟩ := markSS_ev r 1 (by omega) (by omega)
  obtain ⟨k13, q13⟩ := heldSS_ev r 1 (by omega) (by omega)
  exact FnExactInvM_walkC (k1 + k3 + k5 + k7 + k8 + k10 + k12 + k13) A0 c0 l0 R1 r (mrows l0 1) (mrows r 1) b ((1 + sumLen l0 : Nat) : Int) ((1 + sumLen r : Nat) : Int) w
    hr0 hc0 (decide_eq_false (by omega)) (decide_eq_false (by omega)) (decide_eq_false (by omega)) (mrows_length _ _) (by cases b <;> rfl)
    (q1 _ (by omega)) (q3 _ (by omega)) (q5 _ (by omega)) q6 (q7 _ (by omega)) (q8 _ (by omega)) (q10 _ (by omega)) (q12 _ (by omega)) (q13 _ (by omega))


end Go.Proofs.Ythjdnjmlamfdbaa.Pure
