/- A drawn matrix with its inverse is OneM, both ways; one with two rows that are the same has none. -/
import Derived.Test.YthjdnjmlamfdbaaXFnInversesx9
set_option linter.unusedVariables false
set_option linter.unusedSimpArgs false
namespace Go.Proofs.Ythjdnjmlamfdbaa.Pure
open Go.RowKit Go.Proofs.Ythjdnjmlamfdbaa.XFnInverses Go.Proofs.YthjdnjmlamfdbaaW.PrintWords Go.Proofs.YthjdnjmlamfdbaaW.PrintLast

theorem spec_l01In_eq (a l h : Int) : spec_l01In.f a l h = some (decide (l ≤ a ∧ a ≤ h)) := by
  unfold spec_l01In.f
  by_cases h1 : l ≤ a
  · rw [if_pos h1]; simp [h1]
  · rw [if_neg h1]; simp [h1]

theorem spec_l05Mod_eq {a : Int} (h0 : -9223372036854775808 ≤ a) (h1 : a ≤ 9223372036854775807) : spec_l05Mod.f a = some ((modb a : Nat) : Int) := by
  have e : Int.tmod a 256 = if a < 0 ∧ a % 256 ≠ 0 then a % 256 - 256 else a % 256 := by
    rcases Int.lt_or_le a 0 with h | h
    · obtain ⟨n, rfl⟩ : ∃ n : Nat, a = -(n : Int) := ⟨(-a).toNat, by omega⟩
      rw [Int.neg_tmod, Int.tmod_eq_emod_of_nonneg (by omega)]
      split <;> omega
    · rw [Int.tmod_eq_emod_of_nonneg h, if_neg (by omega)]
  unfold spec_l05Mod.f modb
  rw [e]
  by_cases c : a < 0 ∧ a % 256 ≠ 0
  · rw [if_pos c, if_pos (by omega), w64 (by omega) (by omega)]
    congr 1
    omega
  · rw [if_neg c, if_neg (by omega)]
    congr 1
    omega
theorem spec_MulG_l0 (n : Nat) : ∀ (a b out : Nat), a < 256 → b < 2 ^ n → n ≤ 8 → out < 256 → Ev (fun k => spec_MulG.l0 k (a : Int) (b : Int) (out : Int)) ((out ^^^ Gf.gm n a b : Nat) : Int) := by
  induction n with
  | zero =>
    intro a b out ha hb hn ho
    have hb0 : b = 0 := by omega
    subst hb0
    exact Ev.step (f := fun _ => some (out : Int)) (fun k => by simp only [spec_MulG.l0]; rw [if_neg (by omega)]) (by simpa [Gf.gm] using Ev.now _)
  | succ n ih =>
    intro a b out ha hb hn ho
    by_cases hb0 : b = 0
    · subst hb0
      have hz : Gf.gm (n + 1) a 0 = 0 := by
        have : ∀ n a, Gf.gm n a 0 = 0 := by
          intro n
          induction n with
          | zero => intro a; rfl
          | succ n ih => intro a; simp [Gf.gm, ih]
        exact this _ _
      rw [hz, Nat.xor_zero]
      exact Ev.step (f := fun _ => some (out : Int)) (fun k => by simp only [spec_MulG.l0]; rw [if_neg (by omega)]) (Ev.now _)
    · have h8 : 2 ^ n ≤ 2 ^ 8 := Nat.pow_le_pow_right (by omega) (by omega)
      have h9 : 2 ^ (n + 1) = 2 * 2 ^ n := by rw [Nat.pow_succ]; omega
      have h10 : 2 ^ (n + 1) ≤ 2 ^ 8 := Nat.pow_le_pow_right (by omega) hn
      have hm : Int.tmod (b : Int) 2 = ((b % 2 : Nat) : Int) := by rw [Int.tmod_eq_emod_of_nonneg (by omega)]; rfl
      have hd : wrap64 (Int.tdiv (b : Int) 2) = ((b / 2 : Nat) : Int) := by rw [Int.tdiv_eq_ediv_of_nonneg (by omega), w64 (by omega) (by omega)]; rfl
      have h2 : wrap64 (2 * (a : Int)) = ((2 * a : Nat) : Int) := by rw [w64 (by omega) (by omega)]; rfl
      have hx : ∀ m : Nat, m < 256 → (out ^^^ (if b % 2 = 1 then a else 0) ^^^ Gf.gm n (Gf.xt a) (b / 2)) = (out ^^^ Gf.gm (n + 1) a b) := by
        intro m _
        rw [Gf.gm, Nat.xor_assoc]
      have hxa : Go.bits .xor .i64 (out : Int) (a : Int) = ((out ^^^ a : Nat) : Int) := bits_xor64 (by omega) (by omega)
      have hx5 : Go.bits .xor .i64 ((2 * a : Nat) : Int) 285 = ((2 * a ^^^ 285 : Nat) : Int) := bits_xor64 (b := 285) (by omega) (by omega)
      rw [← hx 0 (by omega)]
      have hlt : out ^^^ (if b % 2 = 1 then a else 0) < 256 := Gf.xor_lt (n := 8) ho (by split <;> omega)
      refine Ev.step (f := fun k => spec_MulG.l0 k ((Gf.xt a : Nat) : Int) ((b / 2 : Nat) : Int) ((out ^^^ (if b % 2 = 1 then a else 0) : Nat) : Int)) (fun k => ?_) (ih _ _ _ (Gf.xt_lt ha) (by omega) (by omega) hlt)
      simp only [spec_MulG.l0, hm, hd, h2, hxa, hx5]
      rw [if_pos (by omega)]
      unfold Gf.xt
      by_cases c1 : b % 2 = 1 <;> by_cases c2 : 255 < 2 * a
      · rw [if_pos (by omega), if_pos (by omega), if_pos c1, if_pos c2]
      · rw [if_pos (by omega), if_neg (by omega), if_pos c1, if_neg c2]
      · rw [if_neg (by omega), if_pos (by omega), if_neg c1, if_pos c2, Nat.xor_zero]
      · rw [if_neg (by omega), if_neg (by omega), if_neg c1, if_neg c2, Nat.xor_zero]
theorem spec_MulG_ev {a b : Int} (a0 : -9223372036854775808 ≤ a) (a1 : a ≤ 9223372036854775807) (b0 : -9223372036854775808 ≤ b) (b1 : b ≤ 9223372036854775807) : Ev (fun k => spec_MulG.f k a b) (gmul a b) := by
  have h := spec_MulG_l0 8 (modb a) (modb b) 0 (modb_lt a) (modb_lt b) (Nat.le_refl _) (by omega)
  rw [Nat.zero_xor] at h
  refine Ev.congr (fun k => ?_) h
  unfold spec_MulG.f
  rw [spec_l05Mod_eq a0 a1, spec_l05Mod_eq b0 b1]
  rfl

/-! ### spec.MatrixOk -/
theorem spec_MatrixOk_ev (m : List (List Int)) (hl : m.length ≤ 4611686018427387904) (hr : ∀ r ∈ m, r.length ≤ 4611686018427387904) : Ev (fun k => spec_MatrixOk.f k m) (okM m) := by
  have key : ∀ (B A : List (List Int)), m = A ++ B → Ev (fun k => spec_MatrixOk.l0 k m (A.length : Int)) (B.all (fun r => okR (m.headD []).length r && in18 (m.headD []).length) && in18 m.length) := by
    intro B
    induction B with
    | nil =>
      intro A h
      refine Ev.step (f := fun _ => some (in18 m.length)) (fun k => ?_) (Ev.now _)
      simp only [spec_MatrixOk.l0]
      rw [if_neg (by rw [h]; simp), spec_l01In_eq, in18_int]
      rfl
    | cons x B ih =>
      intro A h
      have e : m.length = A.length + (B.length + 1) := by rw [h]; simp
      have r : rd_L2 m (A.length : Int) = x := by rw [h]; exact rdL_mid A x B
      have hx : x.length ≤ 4611686018427387904 := hr x (by rw [h]; simp)
      have z := ih (A ++ [x]) (by simp [h])
      have inner : ∀ (D C : List Int), x = C ++ D → Ev (fun k => spec_MatrixOk.l1 k m (A.length : Int) (C.length : Int)) (D.all inB && (B.all (fun r => okR (m.headD []).length r && in18 (m.headD []).length) && in18 m.length)) := by
        intro D
        induction D with
        | nil =>
          intro C hc
          refine Ev.step (fun k => ?_) z
          simp only [spec_MatrixOk.l1]
          rw [if_pos (by omega), if_pos (by omega), r, if_neg (by rw [hc]; simp), wsucc (by omega)]
          simp
        | cons y D ihd =>
          intro C hc
          have ex : x.length = C.length + (D.length + 1) := by rw [hc]; simp
          have ry : rd x (C.length : Int) = y := by rw [hc]; exact rdI_mid C y D
          have zd := ihd (C ++ [y]) (by simp [hc])
          by_cases hy : inB y = true
          · rw [List.all_cons, hy, Bool.true_and]
            refine Ev.step (fun k => ?_) zd
            simp only [spec_MatrixOk.l1]
            rw [if_pos (by omega), if_pos (by omega), r, if_pos (by omega), if_pos (by omega), ry, spec_l01In_eq, Option.bind_some, if_pos (by exact hy), wsucc (by omega)]
            simp
          · rw [List.all_cons, Bool.eq_false_iff.mpr hy, Bool.false_and, Bool.false_and]
            refine Ev.step (f := fun _ => some false) (fun k => ?_) (Ev.now _)
            simp only [spec_MatrixOk.l1]
            rw [if_pos (by omega), if_pos (by omega), r, if_pos (by omega), if_pos (by omega), ry, spec_l01In_eq, Option.bind_some, if_neg (by exact hy)]
      have j : ∀ b : Bool, Ev (fun k => spec_MatrixOk.j1 k m (A.length : Int) b) (!b && (x.all inB && (B.all (fun r => okR (m.headD []).length r && in18 (m.headD []).length) && in18 m.length))) := by
        intro b
        cases b with
        | true => exact Ev.step (f := fun _ => some false) (fun k => by simp only [spec_MatrixOk.j1, if_true]) (Ev.now _)
        | false =>
          have y := inner x [] rfl
          rw [Bool.not_false, Bool.true_and]
          refine Ev.step (fun k => ?_) y
          simp only [spec_MatrixOk.j1, Bool.false_eq_true, if_false]
          rfl
      rw [List.all_cons]
      by_cases hn : x.length = (m.headD []).length
      · refine Ev.step (f := fun k => spec_MatrixOk.j1 k m (A.length : Int) (!in18 x.length)) (fun k => ?_) ?_
        · simp only [spec_MatrixOk.l0]
          rw [if_pos (by omega), if_pos (by omega), if_pos (by omega), r, rdL_zero, if_pos (by omega), spec_l01In_eq, Option.bind_some, in18_int]
        · have jj := j (!in18 x.length)
          have eqv : (okR (m.headD []).length x && in18 (m.headD []).length && B.all (fun r => okR (m.headD []).length r && in18 (m.headD []).length) && in18 m.length) = (!(!in18 x.length) && (x.all inB && (B.all (fun r => okR (m.headD []).length r && in18 (m.headD []).length) && in18 m.length))) := by
            unfold okR
            rw [hn, decide_eq_true rfl]
            cases x.all inB <;> cases in18 (m.headD []).length <;> rfl
          rw [eqv]
          exact jj
      · refine Ev.step (f := fun k => spec_MatrixOk.j1 k m (A.length : Int) true) (fun k => ?_) ?_
        · simp only [spec_MatrixOk.l0]
          rw [if_pos (by omega), if_pos (by omega), if_pos (by omega), r, rdL_zero, if_neg (by omega)]
        · have jj := j true
          have eqv : (okR (m.headD []).length x && in18 (m.headD []).length && B.all (fun r => okR (m.headD []).length r && in18 (m.headD []).length) && in18 m.length) = false := by
            unfold okR
            rw [decide_eq_false hn]
            rfl
          rw [eqv]
          exact jj
  have z := key m [] rfl
  have e : okM m = (m.all (fun r => okR (m.headD []).length r && in18 (m.headD []).length) && in18 m.length) := by
    cases m with
    | nil => rfl
    | cons x B =>
      unfold okM
      cases hx : in18 ((x :: B).headD []).length with
      | true =>
        simp only [Bool.and_true]
        exact Bool.and_comm _ _
      | false => simp
  rw [e]
  exact z

/-! ### powers -/
def gpow (a : Int) (n : Int) : Int := if 0 ≤ n ∧ n ≤ 1000 then ((Gf.pow (modb a) n.toNat : Nat) : Int) else 0
theorem gmul_pow (a : Int) (i : Nat) : gmul ((Gf.pow (modb a) i : Nat) : Int) a = ((Gf.pow (modb a) (i + 1) : Nat) : Int) := by
  unfold gmul
  rw [modb_nat (Gf.pow_lt (modb_lt a) i)]
  rfl

theorem spec_PowG_l0 {a : Int} (a0 : -9223372036854775808 ≤ a) (a1 : a ≤ 9223372036854775807) (n : Nat) (hn : n ≤ 1000) (d : Nat) : ∀ i : Nat, i ≤ n → n - i = d →
    Ev (fun k => spec_PowG.l0 k a (n : Int) ((Gf.pow (modb a) i : Nat) : Int) (i : Int)) ((Gf.pow (modb a) n : Nat) : Int) := by
  induction d with
  | zero =>
    intro i hi hd
    obtain rfl : i = n := by omega
    exact Ev.step (f := fun _ => some ((Gf.pow (modb a) i : Nat) : Int)) (fun k => by simp only [spec_PowG.l0]; rw [if_neg (by omega)]) (Ev.now _)
  | succ d ih =>
    intro i hi hd
    have hl := Gf.pow_lt (modb_lt a) i
    refine Ev.step (f := fun k => (spec_MulG.f k ((Gf.pow (modb a) i : Nat) : Int) a).bind fun t => spec_PowG.l0 k a (n : Int) t ((i + 1 : Nat) : Int)) (fun k => ?_) (Ev.bind (spec_MulG_ev (by omega) (by omega) a0 a1) ?_)
    · simp only [spec_PowG.l0]
      rw [if_pos (by omega), w64 (by omega) (by omega)]
      rfl
    · rw [gmul_pow]
      exact ih (i + 1) (by omega) (by omega)
theorem spec_PowG_ev {a n : Int} (a0 : -9223372036854775808 ≤ a) (a1 : a ≤ 9223372036854775807) : Ev (fun k => spec_PowG.f k a n) (gpow a n) := by
  unfold gpow spec_PowG.f
  simp only [spec_l01In_eq, Option.bind_some, decide_eq_true_eq]
  by_cases h : 0 ≤ n ∧ n ≤ 1000
  · simp only [if_pos h]
    obtain ⟨m, rfl⟩ := Int.eq_ofNat_of_zero_le h.1
    exact spec_PowG_l0 a0 a1 m (by omega) m 0 (by omega) (by omega)
  · simp only [if_neg h]
    exact Ev.now _

theorem spec_InvG_ev {a : Int} (a0 : -9223372036854775808 ≤ a) (a1 : a ≤ 9223372036854775807) : Ev (fun k => spec_InvG.f k a) (ginv a) := by
  unfold spec_InvG.f ginv
  rw [spec_l05Mod_eq a0 a1]
  simp only [Option.bind_some]
  have hl := modb_lt a
  by_cases h : modb a = 0
  · simp only [h, if_true, Int.natCast_zero]
    exact Ev.now _
  · simp only [if_neg h, if_neg (show ¬ ((modb a : Nat) : Int) = 0 by omega)]
    have hp := spec_PowG_ev (a := ((modb a : Nat) : Int)) (n := 254) (by omega) (by omega)
    have e : gpow ((modb a : Nat) : Int) 254 = ((Gf.pow (modb a) 254 : Nat) : Int) := by
      unfold gpow
      rw [if_pos (by omega), modb_nat hl]
      rfl
    rw [e] at hp
    exact Ev.bind hp (Ev.now _)

/-! ### spec.OneM -/
theorem spec_OneM_ev (n : Int) : Ev (fun k => spec_OneM.f k n) (oneR n) := by
  unfold spec_OneM.f oneR
  by_cases h : 1 ≤ n ∧ n ≤ 8
  · rw [if_pos h]
    obtain ⟨N, rfl⟩ := Int.eq_ofNat_of_zero_le (show 0 ≤ n by omega)
    have key : ∀ d i : Nat, i ≤ N → N - i = d → Ev (fun q => spec_OneM.l0 q (N : Int) ((List.range i).map fun i => (List.range N).map fun j => ((idf i j : Nat) : Int)) (i : Int)) (mk N N idf) := by
      intro d
      induction d with
      | zero =>
        intro i hi hd
        obtain rfl : i = N := by omega
        refine Ev.step (f := fun _ => some (mk i i idf)) (fun q => ?_) (Ev.now _)
        simp only [spec_OneM.l0]
        rw [if_neg (by omega)]
        rfl
      | succ d ih =>
        intro i hi hd
        have z := ih (i + 1) (by omega) (by omega)
        rw [range_map_succ] at z
        refine Ev.step (fun q => ?_) z
        simp only [spec_OneM.l0]
        rw [if_pos (by omega), spec_l01In_eq, Option.bind_some, if_pos (decide_eq_true h), if_pos (by omega), if_pos (by omega), Option.bind_some, if_pos (by omega), Int.toNat_natCast, Int.toNat_natCast, List.length_replicate, if_pos (by omega), if_pos (by simp; omega), wsucc (by omega), one_row (by omega)]
    exact key N 0 (by omega) (by omega)
  · rw [if_neg h]
    by_cases h0 : 0 < n
    · refine Ev.step (f := fun _ => some []) (fun q => ?_) (Ev.now _)
      simp only [spec_OneM.l0]
      rw [if_pos h0, spec_l01In_eq, Option.bind_some, if_neg (by simpa using h)]
    · refine Ev.step (f := fun _ => some []) (fun q => ?_) (Ev.now _)
      simp only [spec_OneM.l0]
      rw [if_neg h0]

theorem gj_same {n : Nat} {M : Nat → Nat → Nat} (hM : bytesM n M) (hn : 2 ≤ n) (hs : ∀ j, j < n → M 0 j = M 1 j) : gj n M = none := by
  cases h : gj n M with
  | none => rfl
  | some B =>
    exfalso
    obtain ⟨_, _, h2⟩ := gj_ok hM h
    have a := h2 0 (by omega) 0 (by omega)
    have b := h2 1 (by omega) 0 (by omega)
    have e : mulF n M B 0 0 = mulF n M B 1 0 := xs_congr (fun k hk => by rw [hs k hk])
    rw [a, b] at e
    simp [idf] at e

/-! ### spec.InvM -/
theorem times_ev {n v : Nat} {g : Nat → Nat} (hn : n ≤ 8) (hv : v < 256) (hg : ∀ j, j < n → g j < 256) : Ev (fun k => spec_l06Times.f k (rowN n g) (v : Int)) (rowN n (fun j => Gf.mul v (g j))) := by
  have key : ∀ d j : Nat, j ≤ n → n - j = d → Ev (fun k => spec_l06Times.l0 k (rowN n g) (v : Int) (rowN j (fun j => Gf.mul v (g j))) (j : Int)) (rowN n (fun j => Gf.mul v (g j))) := by
    intro d
    induction d with
    | zero =>
      intro j hj hd
      obtain rfl : j = n := by omega
      refine Ev.step (f := fun _ => some (rowN j (fun j => Gf.mul v (g j)))) (fun k => ?_) (Ev.now _)
      simp only [spec_l06Times.l0]
      rw [if_neg (by rw [rowN_length]; omega)]
    | succ d ih =>
      intro j hj hd
      have z := ih (j + 1) (by omega) (by omega)
      rw [rowN_succ] at z
      have hx := hg j (by omega)
      have e := spec_MulG_ev (a := (v : Int)) (b := ((g j : Nat) : Int)) (by omega) (by omega) (by omega) (by omega)
      rw [gmul_nn hv hx] at e
      refine Ev.step (f := fun k => (spec_MulG.f k (v : Int) ((g j : Nat) : Int)).bind fun t => spec_l06Times.l0 k (rowN n g) (v : Int) (rowN j (fun j => Gf.mul v (g j)) ++ [t]) ((j + 1 : Nat) : Int)) (fun k => ?_) (Ev.bind e z)
      simp only [spec_l06Times.l0]
      rw [if_pos (by rw [rowN_length]; omega), if_pos (by omega), rd_rowN g (by omega)]
      refine congrArg (Option.bind _) (funext fun t => ?_)
      rw [if_pos (by rw [rowN_length]; omega), wsucc (by omega)]
  exact key n 0 (by omega) (by omega)
theorem take_ev {n t : Nat} {a b : Nat → Nat} (hn : n ≤ 8) (ht : t < 256) (ha : ∀ j, j < n → a j < 256) (hb : ∀ j, j < n → b j < 256) : Ev (fun k => spec_l06Row.f k (rowN n a) (rowN n b) (t : Int)) (rowN n (fun j => a j ^^^ Gf.mul t (b j))) := by
  have key : ∀ d j : Nat, j ≤ n → n - j = d → Ev (fun k => spec_l06Row.l0 k (rowN n a) (rowN n b) (t : Int) (rowN j (fun j => a j ^^^ Gf.mul t (b j))) (j : Int)) (rowN n (fun j => a j ^^^ Gf.mul t (b j))) := by
    intro d
    induction d with
    | zero =>
      intro j hj hd
      obtain rfl : j = n := by omega
      refine Ev.step (f := fun _ => some (rowN j (fun j => a j ^^^ Gf.mul t (b j)))) (fun k => ?_) (Ev.now _)
      simp only [spec_l06Row.l0]
      rw [if_neg (by rw [rowN_length]; omega)]
    | succ d ih =>
      intro j hj hd
      have z := ih (j + 1) (by omega) (by omega)
      rw [rowN_succ] at z
      have hx := hb j (by omega)
      have hy := ha j (by omega)
      have hm := Gf.mul_lt (b j) ht
      have e := spec_MulG_ev (a := (t : Int)) (b := ((b j : Nat) : Int)) (by omega) (by omega) (by omega) (by omega)
      rw [gmul_nn ht hx] at e
      refine Ev.step (f := fun k => (spec_MulG.f k (t : Int) ((b j : Nat) : Int)).bind fun s => spec_l06Row.l0 k (rowN n a) (rowN n b) (t : Int) (rowN j (fun j => a j ^^^ Gf.mul t (b j)) ++ [Go.bits .xor .i64 ((a j : Nat) : Int) s]) ((j + 1 : Nat) : Int)) (fun k => ?_) (Ev.bind e ?_)
      · simp only [spec_l06Row.l0]
        rw [if_pos (by rw [rowN_length]; omega), if_pos (by omega), if_pos (by rw [rowN_length]; omega), rd_rowN a (by omega), rd_rowN b (by omega)]
        refine congrArg (Option.bind _) (funext fun s => ?_)
        rw [if_pos (by rw [rowN_length]; omega), wsucc (by omega)]
      · rw [bits_xor64 (by omega) (by omega)]
        exact z
  exact key n 0 (by omega) (by omega)
theorem spec_elim_ev {n c : Nat} {A B : Nat → Nat → Nat} {v : List (List Int) × Bool} (hn : n ≤ 8) (hc : c < n) (hA : bytesM n A) (hB : bytesM n B)
    (h : Ev (fun k => spec_InvM.l1 k (n : Int) (mk n n (elimM c (fun i => A i c) A)) (mk n n (elimM c (fun i => A i c) B)) ((c + 1 : Nat) : Int)) v) :
    ∀ d i0 : Nat, i0 ≤ n → n - i0 = d → Ev (fun k => spec_InvM.l3 k (n : Int) (mk n n (partM c (fun i => A i c) i0 A)) (mk n n (partM c (fun i => A i c) i0 B)) (c : Int) (i0 : Int)) v := by
  intro d
  induction d with
  | zero =>
    intro i0 hi hd
    obtain rfl : i0 = n := by omega
    rw [part_all, part_all]
    refine Ev.step (fun k => ?_) h
    simp only [spec_InvM.l3]
    rw [if_neg (by omega), wsucc (by omega)]
  | succ d ih =>
    intro i0 hi hd
    have z := ih (i0 + 1) (by omega) (by omega)
    have same : (i0 = c ∨ A i0 c = 0) → Ev (fun k => spec_InvM.j6 k (n : Int) (mk n n (partM c (fun i => A i c) i0 A)) (mk n n (partM c (fun i => A i c) i0 B)) (c : Int) (i0 : Int) false) v := by
      intro hs
      rw [part_same n c (fun i => A i c) i0 A hs, part_same n c (fun i => A i c) i0 B hs] at z
      refine Ev.step (fun k => ?_) z
      simp only [spec_InvM.j6, Bool.false_eq_true, if_false]
      rw [wsucc (by omega)]
    by_cases hic : i0 = c
    · refine Ev.step (fun k => ?_) (same (Or.inl hic))
      simp only [spec_InvM.l3]
      rw [if_pos (by omega), if_pos (by omega)]
    · have rA : partM c (fun i => A i c) i0 A i0 = A i0 := part_row _ A (fun e => absurd e.1 (Nat.lt_irrefl _))
      have rAc : partM c (fun i => A i c) i0 A c = A c := part_row _ A (fun e => e.2 rfl)
      have rB : partM c (fun i => A i c) i0 B i0 = B i0 := part_row _ B (fun e => absurd e.1 (Nat.lt_irrefl _))
      have rBc : partM c (fun i => A i c) i0 B c = B c := part_row _ B (fun e => e.2 rfl)
      have go : Ev (fun k => spec_InvM.j6 k (n : Int) (mk n n (partM c (fun i => A i c) i0 A)) (mk n n (partM c (fun i => A i c) i0 B)) (c : Int) (i0 : Int) (((A i0 c : Nat) : Int) != 0)) v := by
        by_cases h0 : A i0 c = 0
        · rw [show (((A i0 c : Nat) : Int) != 0) = false by rw [h0]; rfl]
          exact same (Or.inr h0)
        · rw [show (((A i0 c : Nat) : Int) != 0) = true from bne_iff_ne.mpr (by omega)]
          have e1 := take_ev (n := n) (t := A i0 c) (a := A i0) (b := A c) hn (hA i0 (by omega) c hc) (hA i0 (by omega)) (hA c hc)
          have e2 := take_ev (n := n) (t := A i0 c) (a := B i0) (b := B c) hn (hA i0 (by omega) c hc) (hB i0 (by omega)) (hB c hc)
          refine Ev.step (f := fun k => (spec_l06Row.f k (rowN n (A i0)) (rowN n (A c)) ((A i0 c : Nat) : Int)).bind fun t => (spec_l06Row.f k (rowN n (B i0)) (rowN n (B c)) ((A i0 c : Nat) : Int)).bind fun s => spec_InvM.l3 k (n : Int) ((mk n n (partM c (fun i => A i c) i0 A)).set i0 t) ((mk n n (partM c (fun i => A i c) i0 B)).set i0 s) (c : Int) ((i0 + 1 : Nat) : Int)) (fun k => ?_) (Ev.bind e1 (Ev.bind e2 ?_))
          · simp only [spec_InvM.j6, if_true]
            rw [rdL_mk _ (i := i0) (by omega), rdL_mk _ (i := c) hc, rdL_mk _ (i := i0) (by omega), rdL_mk _ (i := c) hc, rA, rAc, rB, rBc, rd_rowN _ hc, mk_length, mk_length, rowN_length]
            rw [if_pos (by omega), if_pos (by omega), if_pos (by omega), if_pos (by omega), if_pos (by omega)]
            refine congrArg (Option.bind _) (funext fun t => ?_)
            rw [if_pos (by omega), if_pos (by omega), wsucc (by omega), Int.toNat_natCast]
          · rw [part_next (fun i => A i c) A (by omega) hic, part_next (fun i => A i c) B (by omega) hic]
            exact z
      refine Ev.step (fun k => ?_) go
      simp only [spec_InvM.l3]
      rw [if_pos (by omega), if_neg (by omega), rdL_mk _ (i := i0) (by omega), rA, rd_rowN _ hc, mk_length, rowN_length, if_pos (by omega), if_pos (by omega), if_pos (by omega), if_pos (by omega)]
theorem spec_find_ev {n c : Nat} {A : Nat → Nat → Nat} {B : List (List Int)} {v : List (List Int) × Bool} (hn : n ≤ 8) (hc : c < n) :
    ∀ d p : Nat, p ≤ n → n - p = d → Ev (fun k => spec_InvM.j4 k (n : Int) (mk n n A) B (c : Int) ((match findP A c d p with | some q => q | none => n : Nat) : Int)) v → Ev (fun k => spec_InvM.l2 k (n : Int) (mk n n A) B (c : Int) (p : Int)) v := by
  intro d
  induction d with
  | zero =>
    intro p hp hd h
    obtain rfl : p = n := by omega
    refine Ev.step (fun k => ?_) h
    simp only [spec_InvM.l2]
    rw [if_neg (by omega)]
    rfl
  | succ d ih =>
    intro p hp hd h
    by_cases h0 : A p c = 0
    · have e : findP A c (d + 1) p = findP A c d (p + 1) := by
        rw [findP, if_pos h0]
      rw [e] at h
      refine Ev.step (fun k => ?_) (ih (p + 1) (by omega) (by omega) h)
      simp only [spec_InvM.l2]
      rw [if_pos (by omega), if_pos (by omega), mk_length, if_pos (by omega), if_pos (by omega), rdL_mk _ (by omega), rowN_length, if_pos (by omega), rd_rowN _ hc, if_pos (by omega), wsucc (by omega)]
    · have e : findP A c (d + 1) p = some p := by
        rw [findP, if_neg h0]
      rw [e] at h
      refine Ev.step (fun k => ?_) h
      simp only [spec_InvM.l2]
      rw [if_pos (by omega), if_pos (by omega), mk_length, if_pos (by omega), if_pos (by omega), rdL_mk _ (by omega), rowN_length, if_pos (by omega), rd_rowN _ hc, if_neg (by omega)]
theorem spec_cols_ev {n : Nat} (hn : n ≤ 8) : ∀ (d c : Nat) (A B : Nat → Nat → Nat), d + c = n → bytesM n A → bytesM n B → Ev (fun k => spec_InvM.l1 k (n : Int) (mk n n A) (mk n n B) (c : Int)) (gjRes n (gjGo n d c A B)) := by
  intro d
  induction d with
  | zero =>
    intro c A B hd hA hB
    refine Ev.step (f := fun _ => some (mk n n B, true)) (fun k => ?_) (Ev.now _)
    simp only [spec_InvM.l1]
    rw [if_neg (by omega)]
  | succ d ih =>
    intro c A B hd hA hB
    have hc : c < n := by omega
    have go : Ev (fun k => spec_InvM.j4 k (n : Int) (mk n n A) (mk n n B) (c : Int) ((match findP A c (n - c) c with | some q => q | none => n : Nat) : Int)) (gjRes n (gjGo n (d + 1) c A B)) := by
      unfold gjGo
      cases hp : findP A c (n - c) c with
      | none =>
        refine Ev.step (f := fun _ => some ([], false)) (fun k => ?_) (Ev.now _)
        simp only [spec_InvM.j4, if_true]
      | some p =>
        obtain ⟨p1, p2, p3⟩ := findP_some hp
        have hpn : p < n := by omega
        have hv : gjV p c A < 256 := Gf.pow_lt (hA p hpn c hc) 254
        have sA := (swap_op hpn hc).bytes _ hA
        have sB := (swap_op hpn hc).bytes _ hB
        have tA := (scale_op hc hv).bytes _ sA
        have tB := (scale_op hc hv).bytes _ sB
        have hT : ∀ i, i < n → gjT p c A i < 256 := fun i hi => tA i hi c hc
        have z := ih (c + 1) (gjF p c (gjV p c A) (gjT p c A) A) (gjF p c (gjV p c A) (gjT p c A) B) (by omega) ((elim_op hc hT).bytes _ tA) ((elim_op hc hT).bytes _ tB)
        have y := spec_elim_ev hn hc tA tB z n 0 (by omega) (by omega)
        rw [part_zero, part_zero] at y
        have pc : swapM p c A c c = A p c := by unfold swapM; rw [if_pos rfl]
        have g := spec_InvG_ev (a := ((A p c : Nat) : Int)) (by have := hA p hpn c hc; omega) (by have := hA p hpn c hc; omega)
        rw [ginv_nat (hA p hpn c hc) p3] at g
        have e1 := times_ev (n := n) (v := gjV p c A) (g := swapM p c A c) hn hv (sA c hc)
        have e2 := times_ev (n := n) (v := gjV p c A) (g := swapM p c B c) hn hv (sB c hc)
        refine Ev.step (f := fun k => (spec_InvG.f k ((A p c : Nat) : Int)).bind fun t => (spec_l06Times.f k (rowN n (swapM p c A c)) t).bind fun r => (spec_l06Times.f k (rowN n (swapM p c B c)) t).bind fun s => spec_InvM.l3 k (n : Int) ((mk n n (swapM p c A)).set c r) ((mk n n (swapM p c B)).set c s) (c : Int) 0) (fun k => ?_) (Ev.bind g (Ev.bind e1 (Ev.bind e2 ?_)))
        · simp only [spec_InvM.j4]
          rw [if_neg (by omega), if_pos (by omega), mk_length, if_pos (by omega), if_pos (by omega), if_pos (by omega), Option.bind_some, mk_length, if_pos (by omega), if_pos (by omega), Option.bind_some, Int.toNat_natCast, Int.toNat_natCast]
          rw [rdL_mk A hc, rdL_mk A hpn, rdL_mk B hc, rdL_mk B hpn, swap_list A hpn hc, swap_list B hpn hc, rdL_mk _ hc, rdL_mk _ hc, rowN_length, if_pos (by omega), rd_rowN _ hc, pc]
        · rw [scale_list _ hc, scale_list _ hc]
          exact y
    refine Ev.step (fun k => ?_) (spec_find_ev hn hc (n - c) c (by omega) rfl go)
    simp only [spec_InvM.l1]
    rw [if_pos (by omega)]
theorem spec_InvM_ev (m : List (List Int)) (hm : m.length ≤ 1099511627776) (hr : ∀ r ∈ m, r.length ≤ 1099511627776) : Ev (fun k => spec_InvM.f k m) (invR m) := by
  have em := spec_MatrixOk_ev m (by omega) (fun r h => by have := hr r h; omega)
  have bad : Ev (fun k => spec_InvM.j0 k m true) (([] : List (List Int)), false) := Ev.step (f := fun _ => some ([], false)) (fun k => by simp only [spec_InvM.j0, if_true]) (Ev.now _)
  unfold spec_InvM.f
  refine Ev.bind em ?_
  cases om : okM m with
  | false =>
    rw [show invR m = ([], false) by unfold invR; rw [if_neg (by simp [om])]]
    exact Ev.neg (by simp) bad
  | true =>
    obtain ⟨a1, a2, a3, a4, _⟩ := of_okM om
    refine Ev.pos rfl (Ev.pos (by omega) ?_)
    rw [rdL_zero]
    by_cases hn : m.length = (m.headD []).length
    · rw [show invR m = gjRes m.length (gj m.length (ent m)) by unfold invR; rw [if_pos ⟨om, hn⟩]]
      rw [show (((m.length : Nat) : Int) != (((m.headD []).length : Nat) : Int)) = false by rw [← hn]; simp]
      have e := eq_mk om
      rw [← hn] at e
      have hb : bytesM m.length (ent m) := fun i hi j hj => (rd_ent om hi (by omega)).2
      have o := spec_OneM_ev ((m.length : Nat) : Int)
      unfold oneR at o
      rw [if_pos (by omega), Int.toNat_natCast] at o
      have last := spec_cols_ev a2 m.length 0 (ent m) idf (by omega) hb (fun i _ j _ => idf_lt i j)
      have L0 : ∀ d i : Nat, i ≤ m.length → m.length - i = d → Ev (fun k => spec_InvM.l0 k m (m.length : Int) ((List.range i).map fun i => rowN m.length (ent m i)) (i : Int)) (gjRes m.length (gj m.length (ent m))) := by
        intro d
        induction d with
        | zero =>
          intro i hi hd
          obtain rfl : i = m.length := by omega
          refine Ev.step (f := fun k => (spec_OneM.f k (m.length : Int)).bind fun t => spec_InvM.l1 k (m.length : Int) (mk m.length m.length (ent m)) t 0) (fun k => ?_) (Ev.bind o last)
          simp only [spec_InvM.l0]
          rw [if_neg (by omega)]
          rfl
        | succ d ih =>
          intro i hi hd
          have z := ih (i + 1) (by omega) (by omega)
          rw [range_map_succ] at z
          have hl := rdL_len om (i := i) (by omega)
          have er : rd_L2 m (i : Int) = rowN m.length (ent m i) := by
            have q := rdL_mk (n := m.length) (ent m) (i := i) (by omega)
            rw [← e] at q
            exact q
          refine Ev.step (fun k => ?_) z
          simp only [spec_InvM.l0]
          rw [if_pos (by omega), Option.bind_some, if_pos (by omega), if_pos (by omega), if_pos (by rw [hl, List.length_nil]; omega), if_pos (by rw [List.length_map, List.length_range]; omega), er, wsucc (by omega), List.nil_append]
      refine Ev.step (fun k => ?_) (L0 m.length 0 (by omega) (by omega))
      simp only [spec_InvM.j0, Bool.false_eq_true, if_false]
      rfl
    · rw [show invR m = ([], false) by unfold invR; rw [if_neg (fun h => hn h.2)]]
      rw [show (((m.length : Nat) : Int) != (((m.headD []).length : Nat) : Int)) = true from bne_iff_ne.mpr (by omega)]
      exact bad

/-- Products do not care how they are taken together. -/
theorem assoc_mk {r n m c : Nat} {f g h : Nat → Nat → Nat} (hr : 1 ≤ r ∧ r ≤ 8) (hn : 1 ≤ n ∧ n ≤ 8) (hm : 1 ≤ m ∧ m ≤ 8) (hc : 1 ≤ c ∧ c ≤ 8)
    (hf : ∀ i, i < r → ∀ j, j < n → f i j < 256) (hg : ∀ i, i < n → ∀ j, j < m → g i j < 256) (hh : ∀ i, i < m → ∀ j, j < c → h i j < 256) :
    mulR (mulR (mk r n f) (mk n m g)) (mk m c h) = mulR (mk r n f) (mulR (mk n m g) (mk m c h)) := by
  rw [mulR_mk hr hn hm hf hg, mulR_mk hr hm hc (fun i hi j hj => mul_lt_of (hf i hi)) hh, mulR_mk hn hm hc hg hh, mulR_mk hr hn hc hf (fun i hi j hj => mul_lt_of (hg i hi))]
  refine mk_congr (fun i hi j hj => ?_)
  have e1 : xs m (fun k => Gf.mul (xs n (fun l => Gf.mul (f i l) (g l k))) (h k j)) = xs m (fun k => xs n (fun l => Gf.mul (f i l) (Gf.mul (g l k) (h k j)))) :=
    xs_congr (fun k hk => by
      rw [xs_mul _ (fun l hl => Gf.mul_lt _ (hf i hi l hl))]
      exact xs_congr (fun l hl => Gf.mul_assoc (hf i hi l hl) (hg l hl k hk) (hh k hk j hj)))
  rw [e1, xs_swap]
  exact xs_congr (fun l hl => (mul_xs _ _ _).symm)
theorem mul_one_mk {r n : Nat} {f : Nat → Nat → Nat} (hr : 1 ≤ r ∧ r ≤ 8) (hn : 1 ≤ n ∧ n ≤ 8) (hf : ∀ i, i < r → ∀ j, j < n → f i j < 256) : mulR (mk r n f) (mk n n idf) = mk r n f := by
  rw [mulR_mk hr hn hn hf (fun i _ j _ => idf_lt i j)]
  refine mk_congr (fun i hi j hj => ?_)
  have e : xs n (fun k => Gf.mul (f i k) (idf k j)) = xs n (fun k => if k = j then f i k else 0) := xs_congr (fun k hk => by
    unfold idf
    by_cases h : k = j
    · rw [if_pos h, if_pos h, Gf.mul_one_right]
    · rw [if_neg h, if_neg h, Gf.mul_zero_right])
  rw [e, xs_one _ hj]
theorem one_mul_mk {n c : Nat} {f : Nat → Nat → Nat} (hn : 1 ≤ n ∧ n ≤ 8) (hc : 1 ≤ c ∧ c ≤ 8) (hf : ∀ i, i < n → ∀ j, j < c → f i j < 256) : mulR (mk n n idf) (mk n c f) = mk n c f := by
  rw [mulR_mk hn hn hc (fun i _ j _ => idf_lt i j) hf]
  refine mk_congr (fun i hi j hj => ?_)
  have e : xs n (fun k => Gf.mul (idf i k) (f k j)) = xs n (fun k => if k = i then f k j else 0) := xs_congr (fun k hk => by
    unfold idf
    by_cases h : k = i
    · subst h
      rw [if_pos rfl, if_pos rfl, Gf.mul_one_left (hf k hk j hj)]
    · rw [if_neg h, if_neg (fun e => h e.symm), Gf.mul_zero_left])
  rw [e, xs_one (fun k => f k j) hi]

/-! ### spec.MulM -/
theorem spec_MulM_ev (a b : List (List Int)) (ha : a.length ≤ 1099511627776) (hb : b.length ≤ 1099511627776) (hra : ∀ r ∈ a, r.length ≤ 1099511627776) (hrb : ∀ r ∈ b, r.length ≤ 1099511627776) : Ev (fun k => spec_MulM.f k a b) (mulR a b) := by
  have ea := spec_MatrixOk_ev a (by omega) (fun r hr => by have := hra r hr; omega)
  have eb := spec_MatrixOk_ev b (by omega) (fun r hr => by have := hrb r hr; omega)
  have bad : Ev (fun k => spec_MulM.j0 k a b [] true) ([] : List (List Int)) := Ev.step (f := fun _ => some []) (fun k => by simp only [spec_MulM.j0, if_true]) (Ev.now _)
  unfold spec_MulM.f
  refine Ev.some_bind rfl (Ev.bind ea ?_)
  cases oa : okM a with
  | false =>
    rw [show mulR a b = [] by unfold mulR; rw [if_neg (by simp [oa])]]
    exact Ev.neg (by simp) bad
  | true =>
    refine Ev.pos rfl (Ev.bind eb ?_)
    cases ob : okM b with
    | false =>
      rw [show mulR a b = [] by unfold mulR; rw [if_neg (by simp [ob])]]
      exact Ev.neg (by simp) bad
    | true =>
      obtain ⟨a1, a2, a3, a4, _⟩ := of_okM oa
      obtain ⟨b1, b2, b3, b4, _⟩ := of_okM ob
      refine Ev.pos rfl (Ev.pos (by omega) ?_)
      rw [rdL_zero]
      by_cases hn : (a.headD []).length = b.length
      · rw [show mulR a b = mulM a b by unfold mulR; rw [if_pos ⟨oa, ob, hn⟩]]
        rw [show ((((a.headD []).length : Nat) : Int) != ((b.length : Nat) : Int)) = false by rw [hn]; simp]
        have L2 : ∀ (i j : Nat), i < a.length → j < (b.headD []).length → ∀ (out : List (List Int)) (P Q : List Int) (v : List (List Int)), P.length = j →
            ∀ d k : Nat, k ≤ b.length → b.length - k = d →
            Ev (fun q => spec_MulM.l1 q a b out (i : Int) (P ++ ((xs b.length (fun k => Gf.mul (ent a i k) (ent b k j)) : Nat) : Int) :: Q) ((j + 1 : Nat) : Int)) v →
            Ev (fun q => spec_MulM.l2 q a b out (i : Int) (P ++ ((xs k (fun k => Gf.mul (ent a i k) (ent b k j)) : Nat) : Int) :: Q) (j : Int) (k : Int)) v := by
          intro i j hi hj out P Q v hP d
          have hla := rdL_len oa hi
          induction d with
          | zero =>
            intro k hk hd h
            obtain rfl : k = b.length := by omega
            refine Ev.step (fun q => ?_) h
            simp only [spec_MulM.l2]
            rw [if_neg (by omega), wsucc (by omega)]
          | succ d ih =>
            intro k hk hd h
            have z := ih (k + 1) (by omega) (by omega) h
            have hlb := rdL_len ob (i := k) (by omega)
            obtain ⟨q1, q2⟩ := rd_ent oa hi (j := k) (by omega)
            obtain ⟨q3, q4⟩ := rd_ent ob (i := k) (by omega) hj
            have lt := mul_lt_of (n := k) (f := fun k => ent a i k) (g := fun k => ent b k j) (fun l hl => (rd_ent oa hi (j := l) (by omega)).2)
            have mt := Gf.mul_lt (ent b k j) q2
            have em := spec_MulG_ev (a := ((ent a i k : Nat) : Int)) (b := ((ent b k j : Nat) : Int)) (by omega) (by omega) (by omega) (by omega)
            rw [gmul_nn q2 q4] at em
            refine Ev.step (f := fun q => (spec_MulG.f q ((ent a i k : Nat) : Int) ((ent b k j : Nat) : Int)).bind fun t => spec_MulM.l2 q a b out (i : Int) ((P ++ ((xs k (fun k => Gf.mul (ent a i k) (ent b k j)) : Nat) : Int) :: Q).set P.length (Go.bits .xor .i64 ((xs k (fun k => Gf.mul (ent a i k) (ent b k j)) : Nat) : Int) t)) (j : Int) ((k + 1 : Nat) : Int)) (fun q => ?_) (Ev.bind em ?_)
            · simp only [spec_MulM.l2]
              rw [if_pos (by omega), if_pos (by omega), if_pos (by simp; omega), if_pos (by omega), if_pos (by omega), if_pos (by omega), if_pos (by omega), if_pos (by omega), q1, q3, wsucc (by omega), Int.toNat_natCast]
              subst hP
              rw [rdI_mid]
            · rw [set_midI, bits_xor64 (by omega) (by omega)]
              exact z
        have L1 : ∀ (i : Nat), i < a.length → ∀ (out : List (List Int)) (v : List (List Int)), out.length ≤ 8 →
            Ev (fun q => spec_MulM.l0 q a b (out ++ [(List.range (b.headD []).length).map fun j => ((xs b.length (fun k => Gf.mul (ent a i k) (ent b k j)) : Nat) : Int)]) ((i + 1 : Nat) : Int)) v →
            ∀ d j : Nat, j ≤ (b.headD []).length → (b.headD []).length - j = d →
            Ev (fun q => spec_MulM.l1 q a b out (i : Int) ((List.range j).map (fun j => ((xs b.length (fun k => Gf.mul (ent a i k) (ent b k j)) : Nat) : Int)) ++ List.replicate d 0) (j : Int)) v := by
          intro i hi out v ho h d
          induction d with
          | zero =>
            intro j hj hd
            obtain rfl : j = (b.headD []).length := by omega
            refine Ev.step (fun q => ?_) h
            simp only [spec_MulM.l1]
            rw [if_pos (by omega), rdL_zero, if_neg (by omega), if_pos (by omega), wsucc (by omega), List.replicate_zero, List.append_nil]
          | succ d ih =>
            intro j hj hd
            have z := ih (j + 1) (by omega) (by omega)
            rw [range_map_succ, List.append_assoc] at z
            have y := L2 i j hi (by omega) out ((List.range j).map (fun j => ((xs b.length (fun k => Gf.mul (ent a i k) (ent b k j)) : Nat) : Int))) (List.replicate d 0) v (by simp) b.length 0 (by omega) (by omega) z
            refine Ev.step (fun q => ?_) y
            simp only [spec_MulM.l1]
            rw [if_pos (by omega), rdL_zero, if_pos (by omega), List.replicate_succ]
            rfl
        have L0 : ∀ d i : Nat, i ≤ a.length → a.length - i = d → Ev (fun q => spec_MulM.l0 q a b ((List.range i).map fun i => (List.range (b.headD []).length).map fun j => ((xs b.length (fun k => Gf.mul (ent a i k) (ent b k j)) : Nat) : Int)) (i : Int)) (mulM a b) := by
          intro d
          induction d with
          | zero =>
            intro i hi hd
            obtain rfl : i = a.length := by omega
            refine Ev.step (f := fun _ => some (mulM a b)) (fun q => ?_) (Ev.now _)
            simp only [spec_MulM.l0]
            rw [if_neg (by omega)]
            rfl
          | succ d ih =>
            intro i hi hd
            have z := ih (i + 1) (by omega) (by omega)
            rw [range_map_succ] at z
            have y := L1 i (by omega) _ _ (by simp; omega) z (b.headD []).length 0 (by omega) (by omega)
            refine Ev.step (fun q => ?_) y
            simp only [spec_MulM.l0]
            rw [if_pos (by omega), if_pos (by omega), rdL_zero, if_pos (by omega), if_pos (by omega), Int.toNat_natCast]
            simp
        have y := L0 a.length 0 (by omega) (by omega)
        refine Ev.step (fun q => ?_) y
        simp only [spec_MulM.j0, Bool.false_eq_true, if_false]
        rfl
      · rw [show mulR a b = [] by unfold mulR; rw [if_neg (fun h => hn h.2.2)]]
        rw [show ((((a.headD []).length : Nat) : Int) != ((b.length : Nat) : Int)) = true from bne_iff_ne.mpr (by omega)]
        exact bad

/-! ### laws.sameMatrix at one matrix -/
theorem sameInts_ev (l : List Int) (hl : l.length ≤ 4611686018427387904) : Ev (fun k => laws_sameInts.f k l l) true := by
  have key : ∀ d (i : Nat), i ≤ l.length → l.length - i = d → Ev (fun k => laws_sameInts.l0 k l l (i : Int)) true := by
    intro d
    induction d with
    | zero =>
      intro i hi hd
      exact Ev.step (f := fun _ => some true) (fun k => by simp only [laws_sameInts.l0]; rw [if_neg (by omega)]) (Ev.now _)
    | succ d ih =>
      intro i hi hd
      refine Ev.step (fun k => ?_) (ih (i + 1) (by omega) (by omega))
      simp only [laws_sameInts.l0]
      rw [if_pos (by omega), if_pos (by omega), if_pos (by omega), wsucc (by omega)]
      simp only [if_true]
  unfold laws_sameInts.f
  simp only [if_true]
  exact key l.length 0 (by omega) (by omega)
theorem sameM_ev (l : List (List Int)) (hl : l.length ≤ 4611686018427387904) (hr : ∀ r ∈ l, r.length ≤ 4611686018427387904) : Ev (fun k => laws_sameMatrix.f k l l) true := by
  have key : ∀ (B A : List (List Int)), l = A ++ B → Ev (fun k => laws_sameMatrix.l0 k l l (A.length : Int)) true := by
    intro B
    induction B with
    | nil =>
      intro A h
      refine Ev.step (f := fun _ => some true) (fun k => ?_) (Ev.now _)
      simp only [laws_sameMatrix.l0]
      rw [if_neg (by rw [h]; simp)]
    | cons x B ih =>
      intro A h
      have e : l.length = A.length + (B.length + 1) := by rw [h]; simp
      have r : rd_L2 l (A.length : Int) = x := by rw [h]; exact rdL_mid A x B
      refine Ev.step (f := fun k => (laws_sameInts.f k x x).bind fun t => if t = true then laws_sameMatrix.l0 k l l ((A.length + 1 : Nat) : Int) else some false) (fun k => ?_) (Ev.bind (sameInts_ev x (hr x (by rw [h]; simp))) (Ev.pos rfl ?_))
      · simp only [laws_sameMatrix.l0]
        rw [if_pos (by omega), if_pos (by omega), if_pos (by omega), r, wsucc (by omega)]
      · have z := ih (A ++ [x]) (by simp [h])
        simpa using z
  unfold laws_sameMatrix.f
  simp only [if_true]
  exact key l [] rfl

/-! ### what is drawn -/
theorem and255_range (x : Int) : 0 ≤ Go.bits .and .i64 x 255 ∧ Go.bits .and .i64 x 255 ≤ 255 := by
  have e : ((BitVec.ofInt 64 x) &&& (BitVec.ofInt 64 255)).toNat = (x % 18446744073709551616).toNat % 256 := by
    rw [BitVec.toNat_and, BitVec.toNat_ofInt, show (BitVec.ofInt 64 255).toNat = 2 ^ 8 - 1 by decide, Nat.and_two_pow_sub_one_eq_mod]
    rfl
  have e2 : Go.bits .and .i64 x 255 = IntKind.i64.wrap (((BitVec.ofInt 64 x) &&& (BitVec.ofInt 64 255)).toNat : Int) := rfl
  rw [e2, e, IntKind.wrap_i64]
  omega
theorem byte_ex (l : List Int) (i h : Int) (hl : l.length ≤ 140737488351232) (hi : 0 ≤ i) : ∃ x i' h', spec_l01Byte.f l i h = some (x, i', h') ∧ 0 ≤ x ∧ x ≤ 255 ∧ 0 ≤ i' := by
  unfold spec_l01Byte.f
  by_cases c : i < (l.length : Int)
  · rw [if_pos c, if_pos hi]
    refine ⟨_, _, _, rfl, (and255_range _).1, (and255_range _).2, ?_⟩
    rw [w64 (by omega) (by omega)]
    omega
  · rw [if_neg c]
    exact ⟨_, _, _, rfl, (and255_range _).1, (and255_range _).2, hi⟩
theorem below_ex (l : List Int) (i h n : Int) (hl : l.length ≤ 140737488351232) (hi : 0 ≤ i) (hn : n ≤ 4294967296) : ∃ x i' h', spec_l01Below.f l i h n = some (x, i', h') ∧ 0 ≤ x ∧ (0 < n → x < n) ∧ (n ≤ 0 → x = 0) ∧ 0 ≤ i' := by
  unfold spec_l01Below.f
  by_cases c1 : n ≤ 0
  · rw [if_pos c1]
    exact ⟨_, _, _, rfl, by omega, by omega, fun _ => rfl, hi⟩
  · rw [if_neg c1]
    by_cases c2 : n ≤ 256
    · rw [if_pos c2]
      obtain ⟨x, i1, h1, e1, b0, b1, hi1⟩ := byte_ex l i h hl hi
      simp only [e1, Option.bind_some]
      rw [if_neg (by omega)]
      refine ⟨_, _, _, rfl, Int.tmod_nonneg _ b0, fun _ => ?_, by omega, hi1⟩
      exact Int.tmod_lt_of_pos _ (by omega)
    · rw [if_neg c2]
      obtain ⟨x, i1, h1, e1, x0, x1, hi1⟩ := byte_ex l i h hl hi
      obtain ⟨y, i2, h2, e2, y0, y1, hi2⟩ := byte_ex l i1 h1 hl hi1
      obtain ⟨z, i3, h3, e3, z0, z1, hi3⟩ := byte_ex l i2 h2 hl hi2
      obtain ⟨u, i4, h4, e4, u0, u1, hi4⟩ := byte_ex l i3 h3 hl hi3
      simp only [e1, e2, e3, e4, Option.bind_some]
      rw [if_neg (by omega)]
      refine ⟨_, _, _, rfl, Int.tmod_nonneg _ ?_, fun _ => Int.tmod_lt_of_pos _ (by omega), by omega, hi4⟩
      rw [w64 (x := x * 16777216) (by omega) (by omega), w64 (x := y * 65536) (by omega) (by omega), w64 (x := z * 256) (by omega) (by omega), w64 (x := x * 16777216 + y * 65536) (by omega) (by omega), w64 (x := x * 16777216 + y * 65536 + z * 256) (by omega) (by omega), w64 (by omega) (by omega)]
      omega
theorem new_ev (l : List Int) (hl : l.length ≤ 140737488351232) : ∃ h, Ev (fun k => spec_l01New.f k l) (l, 0, h) := by
  have key : ∀ d (i : Nat) (h : Int), l.length - i = d → ∃ h', Ev (fun k => spec_l01New.l0 k l h (i : Int)) (l, 0, h') := by
    intro d
    induction d with
    | zero =>
      intro i h hd
      exact ⟨h, Ev.step (f := fun _ => some (l, 0, h)) (fun k => by simp only [spec_l01New.l0]; rw [if_neg (by omega)]) (Ev.now _)⟩
    | succ d ih =>
      intro i h hd
      by_cases c : (i : Int) < 4000
      · obtain ⟨h', hh⟩ := ih (i + 1) _ (by omega)
        refine ⟨h', Ev.step (fun k => ?_) hh⟩
        simp only [spec_l01New.l0]
        rw [if_pos (by omega), if_pos c, if_pos (by omega), wsucc (by omega)]
      · exact ⟨h, Ev.step (f := fun _ => some (l, 0, h)) (fun k => by simp only [spec_l01New.l0]; rw [if_pos (by omega), if_neg c]) (Ev.now _)⟩
  obtain ⟨h', hh⟩ := key l.length 0 (wrap64 (36801 + (l.length : Int))) (by omega)
  exact ⟨h', hh⟩

/-! ### squares that are drawn -/
theorem pick5_ex (l : List Int) (i h x y : Int) (hl : l.length ≤ 140737488351232) (hi : 0 ≤ i) (hx : 0 ≤ x ∧ x ≤ 255) (hy : 0 ≤ y ∧ y ≤ 255) : ∃ r i' h', spec_l01PickInt.f l i h [0, 1, 2, x, y] = some (r, i', h') ∧ 0 ≤ r ∧ r ≤ 255 ∧ 0 ≤ i' := by
  obtain ⟨z, i1, h1, e1, z0, z1, _, hi1⟩ := below_ex l i h 5 hl hi (by omega)
  unfold spec_l01PickInt.f
  rw [show (([0, 1, 2, x, y] : List Int).length : Int) = 5 from rfl, e1, Option.bind_some, if_pos z0, if_pos (z1 (by omega))]
  refine ⟨_, _, _, rfl, ?_, ?_, hi1⟩
  all_goals
    have z2 := z1 (by omega)
    obtain ⟨n, rfl⟩ := Int.eq_ofNat_of_zero_le z0
    have hn : n = 0 ∨ n = 1 ∨ n = 2 ∨ n = 3 ∨ n = 4 := by omega
    rcases hn with rfl | rfl | rfl | rfl | rfl
  · exact Int.le_refl _
  · show (0 : Int) ≤ 1; omega
  · show (0 : Int) ≤ 2; omega
  · exact hx.1
  · exact hy.1
  · show (0 : Int) ≤ 255; omega
  · show (1 : Int) ≤ 255; omega
  · show (2 : Int) ≤ 255; omega
  · exact hx.2
  · exact hy.2
def byteRow (n : Nat) (r : List Int) : Prop := r.length = n ∧ ∀ x ∈ r, 0 ≤ x ∧ x ≤ 255
theorem square_ev (l : List Int) (n : Nat) (hl : l.length ≤ 140737488351232) (h1 : 1 ≤ n) (h8 : n ≤ 8) (i h : Int) (hi : 0 ≤ i) :
    ∃ m i' h', Ev (fun k => spec_l06Square.f k l i h (n : Int)) (m, i', h') ∧ 0 ≤ i' ∧ m.length = n ∧ ∀ r ∈ m, byteRow n r := by
  have inner : ∀ d (j : Nat) (row : List Int) (i h : Int), n - j = d → j ≤ n → 0 ≤ i → row.length = j → (∀ x ∈ row, 0 ≤ x ∧ x ≤ 255) → ∀ (out : List (List Int)) (c : Nat), out.length = c → c < n →
      ∃ r i' h', byteRow n r ∧ 0 ≤ i' ∧ ∀ v, Ev (fun k => spec_l06Square.l0 k (n : Int) (out ++ [r]) ((c + 1 : Nat) : Int) l i' h') v → Ev (fun k => spec_l06Square.l1 k (n : Int) out (c : Int) row (j : Int) l i h) v := by
    intro d
    induction d with
    | zero =>
      intro j row i h hd hj hi hr hb out c ho hc
      refine ⟨row, i, h, ⟨by omega, hb⟩, hi, fun v hv => Ev.step (fun k => ?_) hv⟩
      simp only [spec_l06Square.l1]
      rw [if_neg (by omega), if_pos (by omega), wsucc (by omega)]
    | succ d ih =>
      intro j row i h hd hj hi hr hb out c ho hc
      obtain ⟨x1, i1, g1, e1, x10, x11, _, hi1⟩ := below_ex l i h 256 hl hi (by omega)
      obtain ⟨x2, i2, g2, e2, x20, x21, _, hi2⟩ := below_ex l i1 g1 256 hl hi1 (by omega)
      obtain ⟨y, i3, g3, e3, y0, y1, hi3⟩ := pick5_ex l i2 g2 x1 x2 hl hi2 ⟨x10, by have := x11 (by omega); omega⟩ ⟨x20, by have := x21 (by omega); omega⟩
      obtain ⟨r, i', h', hr1, hi', hv⟩ := ih (j + 1) (row ++ [y]) i3 g3 (by omega) (by omega) hi3 (by simp [hr]) (fun x hx => by
        rcases List.mem_append.mp hx with hx | hx
        · exact hb x hx
        · obtain rfl := List.mem_singleton.mp hx
          exact ⟨y0, y1⟩) out c ho hc
      refine ⟨r, i', h', hr1, hi', fun v hw => Ev.step (fun k => ?_) (hv v hw)⟩
      simp only [spec_l06Square.l1]
      rw [if_pos (by omega), e1, Option.bind_some, e2, Option.bind_some, e3, Option.bind_some, if_pos (by omega), wsucc (by omega)]
  have outer : ∀ d (c : Nat) (out : List (List Int)) (i h : Int), n - c = d → c ≤ n → 0 ≤ i → out.length = c → (∀ r ∈ out, byteRow n r) →
      ∃ m i' h', Ev (fun k => spec_l06Square.l0 k (n : Int) out (c : Int) l i h) (m, i', h') ∧ 0 ≤ i' ∧ m.length = n ∧ ∀ r ∈ m, byteRow n r := by
    intro d
    induction d with
    | zero =>
      intro c out i h hd hc hi ho hb
      refine ⟨out, i, h, Ev.step (f := fun _ => some (out, i, h)) (fun k => ?_) (Ev.now _), hi, by omega, hb⟩
      simp only [spec_l06Square.l0]
      rw [if_neg (by omega)]
    | succ d ih =>
      intro c out i h hd hc hi ho hb
      obtain ⟨r, i1, g1, hr, hi1, hv⟩ := inner n 0 [] i h (by omega) (by omega) hi rfl (by simp) out c ho (by omega)
      obtain ⟨m, i', h', hm, hi', hl', hb'⟩ := ih (c + 1) (out ++ [r]) i1 g1 (by omega) (by omega) hi1 (by simp [ho]) (fun x hx => by
        rcases List.mem_append.mp hx with hx | hx
        · exact hb x hx
        · obtain rfl := List.mem_singleton.mp hx
          exact hr)
      refine ⟨m, i', h', Ev.step (fun k => ?_) (hv _ hm), hi', hl', hb'⟩
      simp only [spec_l06Square.l0]
      rw [if_pos (by omega)]
      rfl
  exact outer n 0 [] i h (by omega) (by omega) hi rfl (by simp)
theorem byte_square {n : Nat} {m : List (List Int)} (h1 : 1 ≤ n) (h8 : n ≤ 8) (hl : m.length = n) (hb : ∀ r ∈ m, byteRow n r) : ∃ f : Nat → Nat → Nat, m = mk n n f ∧ ∀ i, i < n → ∀ j, j < n → f i j < 256 := by
  have hh : (m.headD []).length = n := by
    cases m with
    | nil => simp at hl; omega
    | cons x m => exact (hb x (by simp)).1
  have ok : okM m = true := by
    unfold okM
    rw [hl, hh]
    have e : in18 n = true := decide_eq_true ⟨h1, h8⟩
    rw [e, Bool.true_and, Bool.true_and, List.all_eq_true]
    intro x hx
    unfold okR
    rw [Bool.and_eq_true]
    refine ⟨decide_eq_true (hb x hx).1, List.all_eq_true.mpr (fun y hy => decide_eq_true ((hb x hx).2 y hy))⟩
  have e := eq_mk ok
  rw [hl, hh] at e
  exact ⟨ent m, e, fun i hi j hj => (rd_ent ok (by omega) (by omega)).2⟩
theorem drawSquares_ev (l : List Int) (hl : l.length ≤ 140737488351232) : ∃ (n : Nat) (f g h : Nat → Nat → Nat), 1 ≤ n ∧ n ≤ 3 ∧ Ev (fun k => spec_DrawSquares.f k l) (mk n n f, mk n n g, mk n n h) ∧
    (∀ i, i < n → ∀ j, j < n → f i j < 256) ∧ (∀ i, i < n → ∀ j, j < n → g i j < 256) ∧ (∀ i, i < n → ∀ j, j < n → h i j < 256) := by
  obtain ⟨s, hn⟩ := new_ev l hl
  obtain ⟨x, i1, s1, e1, x0, x1, _, hi1⟩ := below_ex l 0 s 3 hl (by omega) (by omega)
  obtain ⟨N, rfl⟩ := Int.eq_ofNat_of_zero_le x0
  have x1 := x1 (by omega)
  obtain ⟨a, i2, s2, e2, hi2, la, ba⟩ := square_ev l (1 + N) hl (by omega) (by omega) i1 s1 hi1
  obtain ⟨b, i3, s3, e3, hi3, lb, bb⟩ := square_ev l (1 + N) hl (by omega) (by omega) i2 s2 hi2
  obtain ⟨c, i4, s4, e4, hi4, lc, bc⟩ := square_ev l (1 + N) hl (by omega) (by omega) i3 s3 hi3
  obtain ⟨f, rfl, hf⟩ := byte_square (by omega) (by omega) la ba
  obtain ⟨g, rfl, hg⟩ := byte_square (by omega) (by omega) lb bb
  obtain ⟨h, rfl, hh⟩ := byte_square (by omega) (by omega) lc bc
  refine ⟨1 + N, f, g, h, by omega, by omega, ?_, hf, hg, hh⟩
  have w : wrap64 (1 + (N : Int)) = ((1 + N : Nat) : Int) := by rw [w64 (by omega) (by omega)]; rfl
  unfold spec_DrawSquares.f
  refine Ev.bind hn (Ev.some_bind e1 ?_)
  simp only [w]
  exact Ev.bind e2 (Ev.bind e3 (Ev.bind e4 (Ev.now _)))

theorem inv_mk {n : Nat} {f : Nat → Nat → Nat} (n1 : 1 ≤ n) (n8 : n ≤ 8) (hf : bytesM n f) : invR (mk n n f) = gjRes n (gj n (ent (mk n n f))) := by
  unfold invR
  rw [mk_head n n f n1, mk_length, if_pos ⟨okM_mk n1 n8 n1 n8 hf, rfl⟩]
theorem size_mk {n : Nat} {f : Nat → Nat → Nat} (n8 : n ≤ 8) : sizeOk (mk n n f) = true := sizeOk_iff.mpr ⟨by rw [mk_length]; omega, mk_rows (by omega)⟩
theorem twice_ev {n : Nat} {f : Nat → Nat → Nat} {x6 one : List (List Int)} {b : Bool} (n1 : 1 ≤ n) (n8 : n ≤ 8) (hf : bytesM n f) {v : Bool}
    (h : ∀ z, 1 < n → z = false → Ev (fun k => laws_FnInverses.j2 k (mk n n f) x6 b one z) v) (h1 : ¬ 1 < n → Ev (fun k => laws_FnInverses.j2 k (mk n n f) x6 b one false) v) :
    Ev (fun k => laws_FnInverses.l0 k (mk n n f) x6 b one [] 0) v := by
  have l : (mk n n f).length = n := mk_length n n f
  have key : ∀ d i : Nat, i ≤ n → n - i = d → Ev (fun k => laws_FnInverses.l0 k (mk n n f) x6 b one (mk i n (fun _ j => f 0 j)) (i : Int)) v := by
    intro d
    induction d with
    | zero =>
      intro i hi hd
      obtain rfl : i = n := by omega
      have B : bytesM i (fun _ j => f 0 j) := fun a ha j hj => hf 0 (by omega) j hj
      by_cases c : 1 < i
      · have nn : invR (mk i i (fun _ j => f 0 j)) = ([], false) := by
          rw [inv_mk n1 n8 B, gj_same (n := i) (fun a ha j hj => by rw [ent_mk _ _ _ ha hj]; exact B a ha j hj) c (fun j hj => by rw [ent_mk _ _ _ (by omega) hj, ent_mk _ _ _ (by omega) hj])]
          rfl
        refine Ev.step (f := fun k => laws_FnInverses.j2 k (mk i i f) x6 b one false) (fun k => ?_) (h false c rfl)
        simp only [laws_FnInverses.l0]
        rw [if_neg (by omega)]
        unfold impl_InvM.f
        rw [if_pos (size_mk n8), nn, Option.bind_some, if_pos (by omega)]
      · refine Ev.step (f := fun k => laws_FnInverses.j2 k (mk i i f) x6 b one false) (fun k => ?_) (h1 c)
        simp only [laws_FnInverses.l0]
        rw [if_neg (by omega)]
        unfold impl_InvM.f
        rw [if_pos (size_mk n8), Option.bind_some, if_neg (by omega)]
    | succ d ih =>
      intro i hi hd
      have z := ih (i + 1) (by omega) (by omega)
      refine Ev.step (fun k => ?_) z
      simp only [laws_FnInverses.l0]
      rw [if_pos (by omega), if_pos (by omega), if_pos (by rw [mk_length]; omega), wsucc (by omega)]
      have e : mk i n (fun _ j => f 0 j) ++ [rd_L2 (mk n n f) 0] = mk (i + 1) n (fun _ j => f 0 j) := by
        unfold mk
        rw [range_map_succ]
        have q := rdL_mk (n := n) f (i := 0) (by omega)
        unfold mk at q
        rw [show ((0 : Nat) : Int) = 0 from rfl] at q
        rw [q]
        rfl
      rw [e]
  have z := key n 0 (by omega) rfl
  exact z
theorem FnInverses : laws_FnInverses.Pure := by
  intro l _ hl _
  have hl' : l.length ≤ 140737488351232 := by omega
  refine Ev.rounds ?_
  unfold laws_FnInverses.f
  refine Ev.some_bind (x := decide ((l.length : Int) > 1048576)) rfl ?_
  by_cases hb : (l.length : Int) > 1048576
  · exact Ev.pos (by simpa using hb) (Ev.now _)
  · refine Ev.neg (by simpa using hb) ?_
    obtain ⟨n, f, g, h, n1, n3, hd, hf, hg, hh⟩ := drawSquares_ev l hl'
    have n8 : n ≤ 8 := by omega
    have N : 1 ≤ n ∧ n ≤ 8 := ⟨n1, n8⟩
    have H : ∀ {f : Nat → Nat → Nat}, (mk n n f).length ≤ 1099511627776 ∧ ∀ x ∈ mk n n f, x.length ≤ 1099511627776 := ⟨by rw [mk_length]; omega, mk_rows (by omega)⟩
    have iv : impl_InvM.f (mk n n f) = some (invR (mk n n f)) := by
      unfold impl_InvM.f
      rw [if_pos (size_mk n8)]
    have sv := spec_InvM_ev (mk n n f) H.1 H.2
    have on := spec_OneM_ev ((n : Nat) : Int)
    rw [show oneR ((n : Nat) : Int) = mk n n idf by unfold oneR; rw [if_pos (by omega), Int.toNat_natCast]] at on
    have sm : ∀ {f : Nat → Nat → Nat}, Ev (fun k => laws_sameMatrix.f k (mk n n f) (mk n n f)) true := sameM_ev _ (by rw [mk_length]; omega) (mk_rows (by omega))
    have em := inv_mk n1 n8 hf
    have B : bytesM n (ent (mk n n f)) := fun i hi j hj => by rw [ent_mk _ _ _ hi hj]; exact hf i hi j hj
    have E : eqM n (ent (mk n n f)) f := fun i hi j hj => ent_mk _ _ _ hi hj
    have tail : ∀ (x6 : List (List Int)) (x7 : Bool), Ev (fun k => laws_FnInverses.j2 k (mk n n f) x6 x7 (mk n n idf) false) true → Ev (fun k => laws_FnInverses.j0 k (mk n n f) x6 x7 (!true)) true := by
      intro x6 x7 hz
      refine Ev.step (f := fun k => (spec_OneM.f k ((mk n n f).length : Int)).bind fun t347 => laws_FnInverses.l0 k (mk n n f) x6 x7 t347 [] 0) (fun k => by simp only [laws_FnInverses.j0]; rfl) ?_
      rw [mk_length]
      refine Ev.bind on (twice_ev n1 n8 hf (fun z _ e => ?_) (fun _ => hz))
      subst e
      exact hz
    refine Ev.bind hd (Ev.some_bind iv (Ev.bind sv (Ev.neg (by simp) ?_)))
    rw [em]
    cases hg2 : gj n (ent (mk n n f)) with
    | none =>
      have s0 : Ev (fun k => laws_sameMatrix.f k ([] : List (List Int)) []) true := sameM_ev _ (by simp) (by simp)
      refine Ev.bind s0 (tail [] false ?_)
      exact Ev.step (f := fun _ => some true) (fun k => by simp only [laws_FnInverses.j2]; rfl) (Ev.now _)
    | some X =>
      obtain ⟨hX, x1, x2⟩ := gj_ok B hg2
      refine Ev.bind sm (tail (mk n n X) true ?_)
      have m1 := spec_MulM_ev (mk n n f) (mk n n X) H.1 H.1 H.2 H.2
      rw [mulR_mk N N N hf hX] at m1
      have m2 := spec_MulM_ev (mk n n X) (mk n n f) H.1 H.1 H.2 H.2
      rw [mulR_mk N N N hX hf] at m2
      have y1 : mk n n (fun i j => xs n (fun k => Gf.mul (f i k) (X k j))) = mk n n idf := mk_congr (fun i hi j hj => by
        have q := (mulF_congr E.symm (fun a ha b hb => rfl)).trans x2 i hi j hj
        exact q)
      have y2 : mk n n (fun i j => xs n (fun k => Gf.mul (X i k) (f k j))) = mk n n idf := mk_congr (fun i hi j hj => by
        have q := (mulF_congr (fun a ha b hb => rfl) E.symm).trans x1 i hi j hj
        exact q)
      rw [y1] at m1
      rw [y2] at m2
      refine Ev.step (f := fun k => (spec_MulM.f k (mk n n f) (mk n n X)).bind fun t361 => (laws_sameMatrix.f k t361 (mk n n idf)).bind fun t364 => if t364 = true then ((spec_MulM.f k (mk n n X) (mk n n f)).bind fun t365 => (laws_sameMatrix.f k t365 (mk n n idf)).bind fun t368 => some t368) else some false) (fun k => by simp only [laws_FnInverses.j2]; rfl) ?_
      exact Ev.bind m1 (Ev.bind sm (Ev.pos rfl (Ev.bind m2 (Ev.bind sm (Ev.now _)))))


end Go.Proofs.Ythjdnjmlamfdbaa.Pure
