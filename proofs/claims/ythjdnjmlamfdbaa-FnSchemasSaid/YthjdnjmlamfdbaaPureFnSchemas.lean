/- Rows of the code of each schema are units and sums, of which any so many as units have an inverse. -/
import Derived.Test.YthjdnjmlamfdbaaXFnSchemasx7
set_option linter.unusedVariables false
set_option linter.unusedSimpArgs false
namespace Go.Proofs.Ythjdnjmlamfdbaa.Pure
open Go.RowKit Go.Proofs.Ythjdnjmlamfdbaa.XFnSchemas Go.Proofs.YthjdnjmlamfdbaaW.PrintWords Go.Proofs.YthjdnjmlamfdbaaW.PrintLast

theorem spec_l01In_eq (a l h : Int) : spec_l01In.f a l h = some (decide (l ≤ a ∧ a ≤ h)) := by
  unfold spec_l01In.f
  by_cases h1 : l ≤ a
  · rw [if_pos h1]; simp [h1]
  · rw [if_neg h1]; simp [h1]

theorem spec_l05Mod_eq {a : Int} (h0 : -9223372036854775808 ≤ a) (h1 : a ≤ 9223372036854775807) : spec_l05Mod.f a = some ((modb a : Nat) : Int) := by
  have e : Int.tmod a 256 = if a < 0 ∧ a % 256 ≠ 0 then a % 256 - 256 else a % 256 := by
    rcases Int.lt_or_le a 0 with h | h
    · obtain ⟨n, rfl⟩ : ∃ n : Nat, a = -(n : Int) := ⟨(-a).toNat, by omega⟩
      rw [Int.neg_tmod, Int.tmod_eq_emod_of_nonneg (by omega)]
      split <;> omega
    · rw [Int.tmod_eq_emod_of_nonneg h, if_neg (by omega)]
  unfold spec_l05Mod.f modb
  rw [e]
  by_cases c : a < 0 ∧ a % 256 ≠ 0
  · rw [if_pos c, if_pos (by omega), w64 (by omega) (by omega)]
    congr 1
    omega
  · rw [if_neg c, if_neg (by omega)]
    congr 1
    omega
theorem spec_MulG_l0 (n : Nat) : ∀ (a b out : Nat), a < 256 → b < 2 ^ n → n ≤ 8 → out < 256 → Ev (fun k => spec_MulG.l0 k (a : Int) (b : Int) (out : Int)) ((out ^^^ Gf.gm n a b : Nat) : Int) := by
  induction n with
  | zero =>
    intro a b out ha hb hn ho
    have hb0 : b = 0 := by omega
    subst hb0
    exact Ev.step (f := fun _ => some (out : Int)) (fun k => by simp only [spec_MulG.l0]; rw [if_neg (by omega)]) (by simpa [Gf.gm] using Ev.now _)
  | succ n ih =>
    intro a b out ha hb hn ho
    by_cases hb0 : b = 0
    · subst hb0
      have hz : Gf.gm (n + 1) a 0 = 0 := by
        have : ∀ n a, Gf.gm n a 0 = 0 := by
          intro n
          induction n with
          | zero => intro a; rfl
          | succ n ih => intro a; simp [Gf.gm, ih]
        exact this _ _
      rw [hz, Nat.xor_zero]
      exact Ev.step (f := fun _ => some (out : Int)) (fun k => by simp only [spec_MulG.l0]; rw [if_neg (by omega)]) (Ev.now _)
    · have h8 : 2 ^ n ≤ 2 ^ 8 := Nat.pow_le_pow_right (by omega) (by omega)
      have h9 : 2 ^ (n + 1) = 2 * 2 ^ n := by rw [Nat.pow_succ]; omega
      have h10 : 2 ^ (n + 1) ≤ 2 ^ 8 := Nat.pow_le_pow_right (by omega) hn
      have hm : Int.tmod (b : Int) 2 = ((b % 2 : Nat) : Int) := by rw [Int.tmod_eq_emod_of_nonneg (by omega)]; rfl
      have hd : wrap64 (Int.tdiv (b : Int) 2) = ((b / 2 : Nat) : Int) := by rw [Int.tdiv_eq_ediv_of_nonneg (by omega), w64 (by omega) (by omega)]; rfl
      have h2 : wrap64 (2 * (a : Int)) = ((2 * a : Nat) : Int) := by rw [w64 (by omega) (by omega)]; rfl
      have hx : ∀ m : Nat, m < 256 → (out ^^^ (if b % 2 = 1 then a else 0) ^^^ Gf.gm n (Gf.xt a) (b / 2)) = (out ^^^ Gf.gm (n + 1) a b) := by
        intro m _
        rw [Gf.gm, Nat.xor_assoc]
      have hxa : Go.bits .xor .i64 (out : Int) (a : Int) = ((out ^^^ a : Nat) : Int) := bits_xor64 (by omega) (by omega)
      have hx5 : Go.bits .xor .i64 ((2 * a : Nat) : Int) 285 = ((2 * a ^^^ 285 : Nat) : Int) := bits_xor64 (b := 285) (by omega) (by omega)
      rw [← hx 0 (by omega)]
      have hlt : out ^^^ (if b % 2 = 1 then a else 0) < 256 := Gf.xor_lt (n := 8) ho (by split <;> omega)
      refine Ev.step (f := fun k => spec_MulG.l0 k ((Gf.xt a : Nat) : Int) ((b / 2 : Nat) : Int) ((out ^^^ (if b % 2 = 1 then a else 0) : Nat) : Int)) (fun k => ?_) (ih _ _ _ (Gf.xt_lt ha) (by omega) (by omega) hlt)
      simp only [spec_MulG.l0, hm, hd, h2, hxa, hx5]
      rw [if_pos (by omega)]
      unfold Gf.xt
      by_cases c1 : b % 2 = 1 <;> by_cases c2 : 255 < 2 * a
      · rw [if_pos (by omega), if_pos (by omega), if_pos c1, if_pos c2]
      · rw [if_pos (by omega), if_neg (by omega), if_pos c1, if_neg c2]
      · rw [if_neg (by omega), if_pos (by omega), if_neg c1, if_pos c2, Nat.xor_zero]
      · rw [if_neg (by omega), if_neg (by omega), if_neg c1, if_neg c2, Nat.xor_zero]
theorem spec_MulG_ev {a b : Int} (a0 : -9223372036854775808 ≤ a) (a1 : a ≤ 9223372036854775807) (b0 : -9223372036854775808 ≤ b) (b1 : b ≤ 9223372036854775807) : Ev (fun k => spec_MulG.f k a b) (gmul a b) := by
  have h := spec_MulG_l0 8 (modb a) (modb b) 0 (modb_lt a) (modb_lt b) (Nat.le_refl _) (by omega)
  rw [Nat.zero_xor] at h
  refine Ev.congr (fun k => ?_) h
  unfold spec_MulG.f
  rw [spec_l05Mod_eq a0 a1, spec_l05Mod_eq b0 b1]
  rfl

/-! ### powers -/
def gpow (a : Int) (n : Int) : Int := if 0 ≤ n ∧ n ≤ 1000 then ((Gf.pow (modb a) n.toNat : Nat) : Int) else 0
theorem gmul_pow (a : Int) (i : Nat) : gmul ((Gf.pow (modb a) i : Nat) : Int) a = ((Gf.pow (modb a) (i + 1) : Nat) : Int) := by
  unfold gmul
  rw [modb_nat (Gf.pow_lt (modb_lt a) i)]
  rfl

theorem spec_PowG_l0 {a : Int} (a0 : -9223372036854775808 ≤ a) (a1 : a ≤ 9223372036854775807) (n : Nat) (hn : n ≤ 1000) (d : Nat) : ∀ i : Nat, i ≤ n → n - i = d →
    Ev (fun k => spec_PowG.l0 k a (n : Int) ((Gf.pow (modb a) i : Nat) : Int) (i : Int)) ((Gf.pow (modb a) n : Nat) : Int) := by
  induction d with
  | zero =>
    intro i hi hd
    obtain rfl : i = n := by omega
    exact Ev.step (f := fun _ => some ((Gf.pow (modb a) i : Nat) : Int)) (fun k => by simp only [spec_PowG.l0]; rw [if_neg (by omega)]) (Ev.now _)
  | succ d ih =>
    intro i hi hd
    have hl := Gf.pow_lt (modb_lt a) i
    refine Ev.step (f := fun k => (spec_MulG.f k ((Gf.pow (modb a) i : Nat) : Int) a).bind fun t => spec_PowG.l0 k a (n : Int) t ((i + 1 : Nat) : Int)) (fun k => ?_) (Ev.bind (spec_MulG_ev (by omega) (by omega) a0 a1) ?_)
    · simp only [spec_PowG.l0]
      rw [if_pos (by omega), w64 (by omega) (by omega)]
      rfl
    · rw [gmul_pow]
      exact ih (i + 1) (by omega) (by omega)
theorem spec_PowG_ev {a n : Int} (a0 : -9223372036854775808 ≤ a) (a1 : a ≤ 9223372036854775807) : Ev (fun k => spec_PowG.f k a n) (gpow a n) := by
  unfold gpow spec_PowG.f
  simp only [spec_l01In_eq, Option.bind_some, decide_eq_true_eq]
  by_cases h : 0 ≤ n ∧ n ≤ 1000
  · simp only [if_pos h]
    obtain ⟨m, rfl⟩ := Int.eq_ofNat_of_zero_le h.1
    exact spec_PowG_l0 a0 a1 m (by omega) m 0 (by omega) (by omega)
  · simp only [if_neg h]
    exact Ev.now _

theorem spec_InvG_ev {a : Int} (a0 : -9223372036854775808 ≤ a) (a1 : a ≤ 9223372036854775807) : Ev (fun k => spec_InvG.f k a) (ginv a) := by
  unfold spec_InvG.f ginv
  rw [spec_l05Mod_eq a0 a1]
  simp only [Option.bind_some]
  have hl := modb_lt a
  by_cases h : modb a = 0
  · simp only [h, if_true, Int.natCast_zero]
    exact Ev.now _
  · simp only [if_neg h, if_neg (show ¬ ((modb a : Nat) : Int) = 0 by omega)]
    have hp := spec_PowG_ev (a := ((modb a : Nat) : Int)) (n := 254) (by omega) (by omega)
    have e : gpow ((modb a : Nat) : Int) 254 = ((Gf.pow (modb a) 254 : Nat) : Int) := by
      unfold gpow
      rw [if_pos (by omega), modb_nat hl]
      rfl
    rw [e] at hp
    exact Ev.bind hp (Ev.now _)

/-! ### spec.OneM -/
theorem spec_OneM_ev (n : Int) : Ev (fun k => spec_OneM.f k n) (oneR n) := by
  unfold spec_OneM.f oneR
  by_cases h : 1 ≤ n ∧ n ≤ 8
  · rw [if_pos h]
    obtain ⟨N, rfl⟩ := Int.eq_ofNat_of_zero_le (show 0 ≤ n by omega)
    have key : ∀ d i : Nat, i ≤ N → N - i = d → Ev (fun q => spec_OneM.l0 q (N : Int) ((List.range i).map fun i => (List.range N).map fun j => ((idf i j : Nat) : Int)) (i : Int)) (mk N N idf) := by
      intro d
      induction d with
      | zero =>
        intro i hi hd
        obtain rfl : i = N := by omega
        refine Ev.step (f := fun _ => some (mk i i idf)) (fun q => ?_) (Ev.now _)
        simp only [spec_OneM.l0]
        rw [if_neg (by omega)]
        rfl
      | succ d ih =>
        intro i hi hd
        have z := ih (i + 1) (by omega) (by omega)
        rw [range_map_succ] at z
        refine Ev.step (fun q => ?_) z
        simp only [spec_OneM.l0]
        rw [if_pos (by omega), spec_l01In_eq, Option.bind_some, if_pos (decide_eq_true h), if_pos (by omega), if_pos (by omega), Option.bind_some, if_pos (by omega), Int.toNat_natCast, Int.toNat_natCast, List.length_replicate, if_pos (by omega), if_pos (by simp; omega), wsucc (by omega), one_row (by omega)]
    exact key N 0 (by omega) (by omega)
  · rw [if_neg h]
    by_cases h0 : 0 < n
    · refine Ev.step (f := fun _ => some []) (fun q => ?_) (Ev.now _)
      simp only [spec_OneM.l0]
      rw [if_pos h0, spec_l01In_eq, Option.bind_some, if_neg (by simpa using h)]
    · refine Ev.step (f := fun _ => some []) (fun q => ?_) (Ev.now _)
      simp only [spec_OneM.l0]
      rw [if_neg h0]

/-! ### the code of a schema -/
def codeN (k m : Nat) : List (List Int) := mk k k idf ++ (List.range m).map fun i => (List.range k).map fun j => ginv (((k + i) ^^^ j : Nat) : Int)
def codeR (s : Int) : List (List Int) := if s = 1 then codeN 2 1 else if s = 2 then codeN 3 2 else if s = 3 then codeN 4 2 else []
theorem codeN_size {k m : Nat} (hk : k ≤ 8) (hm : m ≤ 8) : (codeN k m).length = k + m ∧ ∀ x ∈ codeN k m, x.length ≤ 8 := by
  unfold codeN
  refine ⟨by rw [List.length_append, mk_length, List.length_map, List.length_range], fun x hx => ?_⟩
  rcases List.mem_append.mp hx with h | h
  · exact mk_rows hk x h
  · obtain ⟨i, _, rfl⟩ := List.mem_map.mp h
    rw [List.length_map, List.length_range]
    exact hk
theorem codeR_size (s : Int) : (codeR s).length ≤ 8 ∧ ∀ x ∈ codeR s, x.length ≤ 8 := by
  unfold codeR
  by_cases h1 : s = 1
  · rw [if_pos h1]
    have := codeN_size (k := 2) (m := 1) (by omega) (by omega)
    exact ⟨by omega, this.2⟩
  · rw [if_neg h1]
    by_cases h2 : s = 2
    · rw [if_pos h2]
      have := codeN_size (k := 3) (m := 2) (by omega) (by omega)
      exact ⟨by omega, this.2⟩
    · rw [if_neg h2]
      by_cases h3 : s = 3
      · rw [if_pos h3]
        have := codeN_size (k := 4) (m := 2) (by omega) (by omega)
        exact ⟨by omega, this.2⟩
      · rw [if_neg h3]
        simp
theorem xor_small {k i j : Nat} (hk : k ≤ 8) (hi : i ≤ 8) (hj : j ≤ 8) : (k + i) ^^^ j < 2 ^ 8 := Nat.xor_lt_two_pow (by omega) (by omega)

/-! ### impl.CodeOf -/
theorem impl_code_ev {k m : Nat} (hk : k ≤ 8) (hm : m ≤ 8) : Ev (fun q => impl_CodeOf.l0 q (k : Int) (m : Int) (mk k k idf) 0) (codeN k m) := by
  have L1 : ∀ (i : Nat), i < m → ∀ (out v : List (List Int)), out.length ≤ 16 → Ev (fun q => impl_CodeOf.l0 q (k : Int) (m : Int) (out ++ [(List.range k).map fun j => ginv (((k + i) ^^^ j : Nat) : Int)]) ((i + 1 : Nat) : Int)) v →
      ∀ d j : Nat, j ≤ k → k - j = d → Ev (fun q => impl_CodeOf.l1 q (k : Int) (m : Int) out (i : Int) ((List.range j).map (fun j => ginv (((k + i) ^^^ j : Nat) : Int)) ++ List.replicate d 0) (k : Int) (j : Int)) v := by
    intro i hi out v ho h d
    induction d with
    | zero =>
      intro j hj hd
      obtain rfl : j = k := by omega
      refine Ev.step (fun q => ?_) h
      simp only [impl_CodeOf.l1]
      rw [if_neg (by omega), if_pos (by omega), wsucc (by omega), List.replicate_zero, List.append_nil]
    | succ d ih =>
      intro j hj hd
      have z := ih (j + 1) (by omega) (by omega)
      rw [range_map_succ, List.append_assoc] at z
      have x8 := xor_small (k := k) (i := i) (j := j) hk (by omega) (by omega)
      have e := impl_InvG_ev (a := (((k + i) ^^^ j : Nat) : Int)) (by omega) (by omega)
      refine Ev.step (f := fun q => (impl_InvG.f q (((k + i) ^^^ j : Nat) : Int)).bind fun t => impl_CodeOf.l1 q (k : Int) (m : Int) out (i : Int) (((List.range j).map (fun j => ginv (((k + i) ^^^ j : Nat) : Int)) ++ List.replicate (d + 1) 0).set j t) (k : Int) ((j + 1 : Nat) : Int)) (fun q => ?_) (Ev.bind e ?_)
      · simp only [impl_CodeOf.l1]
        rw [if_pos (by omega), wadd (by omega), bits_xor64 (by omega) (by omega)]
        refine congrArg (Option.bind _) (funext fun t => ?_)
        rw [if_pos (by omega), if_pos (by rw [List.length_append, List.length_map, List.length_range, List.length_replicate]; omega), wsucc (by omega), Int.toNat_natCast]
      · have s := set_midI ((List.range j).map (fun j => ginv (((k + i) ^^^ j : Nat) : Int))) 0 (ginv (((k + i) ^^^ j : Nat) : Int)) (List.replicate d 0)
        rw [List.length_map, List.length_range] at s
        rw [List.replicate_succ, s]
        exact z
  have L0 : ∀ d i : Nat, i ≤ m → m - i = d → Ev (fun q => impl_CodeOf.l0 q (k : Int) (m : Int) (mk k k idf ++ (List.range i).map fun i => (List.range k).map fun j => ginv (((k + i) ^^^ j : Nat) : Int)) (i : Int)) (codeN k m) := by
    intro d
    induction d with
    | zero =>
      intro i hi hd
      obtain rfl : i = m := by omega
      refine Ev.step (f := fun _ => some (codeN k i)) (fun q => ?_) (Ev.now _)
      simp only [impl_CodeOf.l0]
      rw [if_neg (by omega)]
      rfl
    | succ d ih =>
      intro i hi hd
      have z := ih (i + 1) (by omega) (by omega)
      rw [range_map_succ, ← List.append_assoc] at z
      have y := L1 i (by omega) _ _ (by rw [List.length_append, mk_length, List.length_map, List.length_range]; omega) z k 0 (by omega) (by omega)
      refine Ev.step (fun q => ?_) y
      simp only [impl_CodeOf.l0]
      rw [if_pos (by omega), if_pos (by omega), if_pos (by omega), Option.bind_some, Int.toNat_natCast, List.length_replicate]
      rfl
  have y := L0 m 0 (by omega) (by omega)
  simpa using y
theorem impl_CodeOf_ev (s : Int) : Ev (fun q => impl_CodeOf.f q s) (codeR s) := by
  have one (n : Nat) (h1 : 1 ≤ n) (h8 : n ≤ 8) : Ev (fun q => impl_OneM.f q (n : Int)) (mk n n idf) := by
    have h := impl_OneM_ev (n : Int)
    unfold oneR at h
    rw [if_pos (by omega), Int.toNat_natCast] at h
    exact h
  unfold impl_CodeOf.f impl_SchemaOf.f codeR
  by_cases h1 : s = 1
  · simp only [if_pos h1, Option.bind_some, if_true]
    exact Ev.bind (one 2 (by omega) (by omega)) (impl_code_ev (k := 2) (m := 1) (by omega) (by omega))
  · simp only [if_neg h1]
    by_cases h2 : s = 2
    · simp only [if_pos h2, Option.bind_some, if_true]
      exact Ev.bind (one 3 (by omega) (by omega)) (impl_code_ev (k := 3) (m := 2) (by omega) (by omega))
    · simp only [if_neg h2]
      by_cases h3 : s = 3
      · simp only [if_pos h3, Option.bind_some, if_true]
        exact Ev.bind (one 4 (by omega) (by omega)) (impl_code_ev (k := 4) (m := 2) (by omega) (by omega))
      · simp only [if_neg h3, Option.bind_some, Bool.false_eq_true, if_false]
        exact Ev.now _

/-! ### spec.CodeOf -/
theorem spec_code_ev {k m : Nat} (hk : k ≤ 8) (hm : m ≤ 8) : Ev (fun q => spec_CodeOf.l0 q (k : Int) (m : Int) (mk k k idf) 0) (codeN k m) := by
  have L1 : ∀ (i : Nat), i < m → ∀ (out v : List (List Int)), out.length ≤ 16 → Ev (fun q => spec_CodeOf.l0 q (k : Int) (m : Int) (out ++ [(List.range k).map fun j => ginv (((k + i) ^^^ j : Nat) : Int)]) ((i + 1 : Nat) : Int)) v →
      ∀ d j : Nat, j ≤ k → k - j = d → Ev (fun q => spec_CodeOf.l1 q (k : Int) (m : Int) out (i : Int) ((List.range j).map (fun j => ginv (((k + i) ^^^ j : Nat) : Int))) (j : Int)) v := by
    intro i hi out v ho h d
    induction d with
    | zero =>
      intro j hj hd
      obtain rfl : j = k := by omega
      refine Ev.step (fun q => ?_) h
      simp only [spec_CodeOf.l1]
      rw [if_neg (by omega), if_pos (by omega), wsucc (by omega)]
    | succ d ih =>
      intro j hj hd
      have z := ih (j + 1) (by omega) (by omega)
      rw [range_map_succ] at z
      have x8 := xor_small (k := k) (i := i) (j := j) hk (by omega) (by omega)
      have e := spec_InvG_ev (a := (((k + i) ^^^ j : Nat) : Int)) (by omega) (by omega)
      refine Ev.step (f := fun q => (spec_InvG.f q (((k + i) ^^^ j : Nat) : Int)).bind fun t => spec_CodeOf.l1 q (k : Int) (m : Int) out (i : Int) ((List.range j).map (fun j => ginv (((k + i) ^^^ j : Nat) : Int)) ++ [t]) ((j + 1 : Nat) : Int)) (fun q => ?_) (Ev.bind e z)
      simp only [spec_CodeOf.l1]
      rw [if_pos (by omega), wadd (by omega), bits_xor64 (by omega) (by omega)]
      refine congrArg (Option.bind _) (funext fun t => ?_)
      rw [if_pos (by rw [List.length_map, List.length_range]; omega), wsucc (by omega)]
  have L0 : ∀ d i : Nat, i ≤ m → m - i = d → Ev (fun q => spec_CodeOf.l0 q (k : Int) (m : Int) (mk k k idf ++ (List.range i).map fun i => (List.range k).map fun j => ginv (((k + i) ^^^ j : Nat) : Int)) (i : Int)) (codeN k m) := by
    intro d
    induction d with
    | zero =>
      intro i hi hd
      obtain rfl : i = m := by omega
      refine Ev.step (f := fun _ => some (codeN k i)) (fun q => ?_) (Ev.now _)
      simp only [spec_CodeOf.l0]
      rw [if_neg (by omega)]
      rfl
    | succ d ih =>
      intro i hi hd
      have z := ih (i + 1) (by omega) (by omega)
      rw [range_map_succ, ← List.append_assoc] at z
      have y := L1 i (by omega) _ _ (by rw [List.length_append, mk_length, List.length_map, List.length_range]; omega) z k 0 (by omega) (by omega)
      refine Ev.step (fun q => ?_) y
      simp only [spec_CodeOf.l0]
      rw [if_pos (by omega)]
      rfl
  have y := L0 m 0 (by omega) (by omega)
  simpa using y
theorem spec_CodeOf_ev (s : Int) : Ev (fun q => spec_CodeOf.f q s) (codeR s) := by
  have one (n : Nat) (h1 : 1 ≤ n) (h8 : n ≤ 8) : Ev (fun q => spec_OneM.f q (n : Int)) (mk n n idf) := by
    have h := spec_OneM_ev (n : Int)
    unfold oneR at h
    rw [if_pos (by omega), Int.toNat_natCast] at h
    exact h
  unfold spec_CodeOf.f spec_SchemaOf.f codeR
  by_cases h1 : s = 1
  · simp only [if_pos h1, Option.bind_some, if_true, List.nil_append]
    exact Ev.bind (one 2 (by omega) (by omega)) (Ev.pos (by rw [mk_length]; simp) (spec_code_ev (k := 2) (m := 1) (by omega) (by omega)))
  · simp only [if_neg h1]
    by_cases h2 : s = 2
    · simp only [if_pos h2, Option.bind_some, if_true, List.nil_append]
      exact Ev.bind (one 3 (by omega) (by omega)) (Ev.pos (by rw [mk_length]; simp) (spec_code_ev (k := 3) (m := 2) (by omega) (by omega)))
    · simp only [if_neg h2]
      by_cases h3 : s = 3
      · simp only [if_pos h3, Option.bind_some, if_true, List.nil_append]
        exact Ev.bind (one 4 (by omega) (by omega)) (Ev.pos (by rw [mk_length]; simp) (spec_code_ev (k := 4) (m := 2) (by omega) (by omega)))
      · simp only [if_neg h3, Option.bind_some, Bool.false_eq_true, if_false]
        exact Ev.now _

/-! ### so many rows of a code as there are units have an inverse -/
def sel : Nat → Nat → Nat → List (List Nat)
  | 0, _, 0 => [[]]
  | 0, _, _ + 1 => []
  | n + 1, i, 0 => sel n (i + 1) 0
  | n + 1, i, k + 1 => (sel n (i + 1) k).map (fun t => i :: t) ++ sel n (i + 1) (k + 1)
def rowsOf (c : List (List Int)) (t : List Nat) : List (List Int) := t.map fun i => c.getD i []
theorem inv_small : ∀ t ∈ sel 3 0 2, (invR (rowsOf (codeN 2 1) t)).2 = true := by decide +kernel
theorem inv_middle : ∀ t ∈ sel 5 0 3, (invR (rowsOf (codeN 3 2) t)).2 = true := by decide +kernel
theorem inv_wide : ∀ t ∈ sel 6 0 4, (invR (rowsOf (codeN 4 2) t)).2 = true := by decide +kernel
theorem rowsOf_snoc (c : List (List Int)) (t : List Nat) (i : Nat) : rowsOf c t ++ [rd_L2 c (i : Int)] = rowsOf c (t ++ [i]) := by
  unfold rowsOf rd_L2
  rw [List.map_append, Int.toNat_natCast]
  rfl
theorem rowsOf_length (c : List (List Int)) (t : List Nat) : (rowsOf c t).length = t.length := by simp [rowsOf]
theorem rowsOf_rows {c : List (List Int)} {N : Nat} (h : ∀ x ∈ c, x.length ≤ N) (t : List Nat) : ∀ x ∈ rowsOf c t, x.length ≤ N := by
  intro x hx
  unfold rowsOf at hx
  obtain ⟨i, _, rfl⟩ := List.mem_map.mp hx
  by_cases hi : i < c.length
  · rw [List.getD_eq_getElem?_getD, List.getElem?_eq_getElem hi]
    exact h _ (List.getElem_mem hi)
  · rw [List.getD_eq_getElem?_getD, List.getElem?_eq_none (by omega)]
    simp
theorem sel_in {n i k : Nat} {t : List Nat} (h : t ∈ sel n (i + 1) k) : i :: t ∈ sel (n + 1) i (k + 1) := by
  unfold sel
  exact List.mem_append_left _ (List.mem_map.mpr ⟨t, h, rfl⟩)
theorem sel_out {n i k : Nat} {t : List Nat} (h : t ∈ sel n (i + 1) k) : t ∈ sel (n + 1) i k := by
  cases k with
  | zero => exact h
  | succ k => exact List.mem_append_right _ h

/-! ### laws.sameMatrix at one matrix -/
theorem sameInts_ev (l : List Int) (hl : l.length ≤ 4611686018427387904) : Ev (fun k => laws_sameInts.f k l l) true := by
  have key : ∀ d (i : Nat), i ≤ l.length → l.length - i = d → Ev (fun k => laws_sameInts.l0 k l l (i : Int)) true := by
    intro d
    induction d with
    | zero =>
      intro i hi hd
      exact Ev.step (f := fun _ => some true) (fun k => by simp only [laws_sameInts.l0]; rw [if_neg (by omega)]) (Ev.now _)
    | succ d ih =>
      intro i hi hd
      refine Ev.step (fun k => ?_) (ih (i + 1) (by omega) (by omega))
      simp only [laws_sameInts.l0]
      rw [if_pos (by omega), if_pos (by omega), if_pos (by omega), wsucc (by omega)]
      simp only [if_true]
  unfold laws_sameInts.f
  simp only [if_true]
  exact key l.length 0 (by omega) (by omega)
theorem sameM_ev (l : List (List Int)) (hl : l.length ≤ 4611686018427387904) (hr : ∀ r ∈ l, r.length ≤ 4611686018427387904) : Ev (fun k => laws_sameMatrix.f k l l) true := by
  have key : ∀ (B A : List (List Int)), l = A ++ B → Ev (fun k => laws_sameMatrix.l0 k l l (A.length : Int)) true := by
    intro B
    induction B with
    | nil =>
      intro A h
      refine Ev.step (f := fun _ => some true) (fun k => ?_) (Ev.now _)
      simp only [laws_sameMatrix.l0]
      rw [if_neg (by rw [h]; simp)]
    | cons x B ih =>
      intro A h
      have e : l.length = A.length + (B.length + 1) := by rw [h]; simp
      have r : rd_L2 l (A.length : Int) = x := by rw [h]; exact rdL_mid A x B
      refine Ev.step (f := fun k => (laws_sameInts.f k x x).bind fun t => if t = true then laws_sameMatrix.l0 k l l ((A.length + 1 : Nat) : Int) else some false) (fun k => ?_) (Ev.bind (sameInts_ev x (hr x (by rw [h]; simp))) (Ev.pos rfl ?_))
      · simp only [laws_sameMatrix.l0]
        rw [if_pos (by omega), if_pos (by omega), if_pos (by omega), r, wsucc (by omega)]
      · have z := ih (A ++ [x]) (by simp [h])
        simpa using z
  unfold laws_sameMatrix.f
  simp only [if_true]
  exact key l [] rfl

/-! ### what is drawn -/
theorem and255_range (x : Int) : 0 ≤ Go.bits .and .i64 x 255 ∧ Go.bits .and .i64 x 255 ≤ 255 := by
  have e : ((BitVec.ofInt 64 x) &&& (BitVec.ofInt 64 255)).toNat = (x % 18446744073709551616).toNat % 256 := by
    rw [BitVec.toNat_and, BitVec.toNat_ofInt, show (BitVec.ofInt 64 255).toNat = 2 ^ 8 - 1 by decide, Nat.and_two_pow_sub_one_eq_mod]
    rfl
  have e2 : Go.bits .and .i64 x 255 = IntKind.i64.wrap (((BitVec.ofInt 64 x) &&& (BitVec.ofInt 64 255)).toNat : Int) := rfl
  rw [e2, e, IntKind.wrap_i64]
  omega
theorem byte_ex (l : List Int) (i h : Int) (hl : l.length ≤ 140737488351232) (hi : 0 ≤ i) : ∃ x i' h', spec_l01Byte.f l i h = some (x, i', h') ∧ 0 ≤ x ∧ x ≤ 255 ∧ 0 ≤ i' := by
  unfold spec_l01Byte.f
  by_cases c : i < (l.length : Int)
  · rw [if_pos c, if_pos hi]
    refine ⟨_, _, _, rfl, (and255_range _).1, (and255_range _).2, ?_⟩
    rw [w64 (by omega) (by omega)]
    omega
  · rw [if_neg c]
    exact ⟨_, _, _, rfl, (and255_range _).1, (and255_range _).2, hi⟩
theorem below_ex (l : List Int) (i h n : Int) (hl : l.length ≤ 140737488351232) (hi : 0 ≤ i) (hn : n ≤ 4294967296) : ∃ x i' h', spec_l01Below.f l i h n = some (x, i', h') ∧ 0 ≤ x ∧ (0 < n → x < n) ∧ (n ≤ 0 → x = 0) ∧ 0 ≤ i' := by
  unfold spec_l01Below.f
  by_cases c1 : n ≤ 0
  · rw [if_pos c1]
    exact ⟨_, _, _, rfl, by omega, by omega, fun _ => rfl, hi⟩
  · rw [if_neg c1]
    by_cases c2 : n ≤ 256
    · rw [if_pos c2]
      obtain ⟨x, i1, h1, e1, b0, b1, hi1⟩ := byte_ex l i h hl hi
      simp only [e1, Option.bind_some]
      rw [if_neg (by omega)]
      refine ⟨_, _, _, rfl, Int.tmod_nonneg _ b0, fun _ => ?_, by omega, hi1⟩
      exact Int.tmod_lt_of_pos _ (by omega)
    · rw [if_neg c2]
      obtain ⟨x, i1, h1, e1, x0, x1, hi1⟩ := byte_ex l i h hl hi
      obtain ⟨y, i2, h2, e2, y0, y1, hi2⟩ := byte_ex l i1 h1 hl hi1
      obtain ⟨z, i3, h3, e3, z0, z1, hi3⟩ := byte_ex l i2 h2 hl hi2
      obtain ⟨u, i4, h4, e4, u0, u1, hi4⟩ := byte_ex l i3 h3 hl hi3
      simp only [e1, e2, e3, e4, Option.bind_some]
      rw [if_neg (by omega)]
      refine ⟨_, _, _, rfl, Int.tmod_nonneg _ ?_, fun _ => Int.tmod_lt_of_pos _ (by omega), by omega, hi4⟩
      rw [w64 (x := x * 16777216) (by omega) (by omega), w64 (x := y * 65536) (by omega) (by omega), w64 (x := z * 256) (by omega) (by omega), w64 (x := x * 16777216 + y * 65536) (by omega) (by omega), w64 (x := x * 16777216 + y * 65536 + z * 256) (by omega) (by omega), w64 (by omega) (by omega)]
      omega
theorem new_ev (l : List Int) (hl : l.length ≤ 140737488351232) : ∃ h, Ev (fun k => spec_l01New.f k l) (l, 0, h) := by
  have key : ∀ d (i : Nat) (h : Int), l.length - i = d → ∃ h', Ev (fun k => spec_l01New.l0 k l h (i : Int)) (l, 0, h') := by
    intro d
    induction d with
    | zero =>
      intro i h hd
      exact ⟨h, Ev.step (f := fun _ => some (l, 0, h)) (fun k => by simp only [spec_l01New.l0]; rw [if_neg (by omega)]) (Ev.now _)⟩
    | succ d ih =>
      intro i h hd
      by_cases c : (i : Int) < 4000
      · obtain ⟨h', hh⟩ := ih (i + 1) _ (by omega)
        refine ⟨h', Ev.step (fun k => ?_) hh⟩
        simp only [spec_l01New.l0]
        rw [if_pos (by omega), if_pos c, if_pos (by omega), wsucc (by omega)]
      · exact ⟨h, Ev.step (f := fun _ => some (l, 0, h)) (fun k => by simp only [spec_l01New.l0]; rw [if_pos (by omega), if_neg c]) (Ev.now _)⟩
  obtain ⟨h', hh⟩ := key l.length 0 (wrap64 (36801 + (l.length : Int))) (by omega)
  exact ⟨h', hh⟩

theorem places_ev (l : List Int) (hl : l.length ≤ 140737488351232) : ∃ p : List Int, Ev (fun k => spec_DrawPlaces.f k l) p ∧ p.length = 12 ∧ ∀ x ∈ p, 0 ≤ x ∧ x < 10000 := by
  obtain ⟨h0, hn⟩ := new_ev l hl
  obtain ⟨x, i1, h1, e1, x0, x1, hi1⟩ := byte_ex l 0 h0 hl (by omega)
  have key : ∀ d (j : Nat) (acc : List Int) (i h : Int), j ≤ 12 → 12 - j = d → acc.length = j → (∀ x ∈ acc, 0 ≤ x ∧ x < 10000) → 0 ≤ i → ∃ p : List Int, Ev (fun k => spec_DrawPlaces.l0 k acc (j : Int) l i h) p ∧ p.length = 12 ∧ ∀ x ∈ p, 0 ≤ x ∧ x < 10000 := by
    intro d
    induction d with
    | zero =>
      intro j acc i h hj hd ha hb hi
      exact ⟨acc, Ev.step (f := fun _ => some acc) (fun k => by simp only [spec_DrawPlaces.l0]; rw [if_neg (by omega)]) (Ev.now _), by omega, hb⟩
    | succ d ih =>
      intro j acc i h hj hd ha hb hi
      obtain ⟨y, i2, h2, e2, y0, y1, _, hi2⟩ := below_ex l i h 10000 hl hi (by omega)
      obtain ⟨p, hp, hp1, hp2⟩ := ih (j + 1) (acc ++ [y]) i2 h2 (by omega) (by omega) (by simp; omega) (by
        intro z hz
        rcases List.mem_append.1 hz with hz | hz
        · exact hb z hz
        · rw [List.mem_singleton.1 hz]; exact ⟨y0, y1 (by omega)⟩) hi2
      refine ⟨p, Ev.step (fun k => ?_) hp, hp1, hp2⟩
      simp only [spec_DrawPlaces.l0]
      rw [if_pos (by omega), e2]
      simp only [Option.bind_some]
      rw [if_pos (by omega), wsucc (by omega)]
  obtain ⟨p, hp, hp1, hp2⟩ := key 12 0 [] i1 h1 (by omega) (by omega) rfl (by simp) hi1
  refine ⟨p, ?_, hp1, hp2⟩
  unfold spec_DrawPlaces.f
  refine Ev.bind hn ?_
  simp only [e1, Option.bind_some]
  exact hp
theorem rd_mem {p : List Int} {n : Nat} (h : n < p.length) : rd p (n : Int) ∈ p := by
  unfold rd
  rw [Int.toNat_natCast, List.getD_eq_getElem?_getD, List.getElem?_eq_getElem h]
  exact List.getElem_mem h

theorem wsub {a b c : Nat} (h : a = b + c) (hb : a ≤ 4611686018427387904) : wrap64 ((a : Int) - (b : Int)) = (c : Int) := by
  rw [w64 (by omega) (by omega)]
  omega
theorem schemas_pick {K M : Nat} {p : List Int} {rows : List (List Int)} (hp : p.length = 12) (hb : ∀ x ∈ p, 0 ≤ x ∧ x < 10000) (hr : rows.length = K + M) (h8 : K + M ≤ 8) (hx : ∀ x ∈ rows, x.length ≤ 8)
    (good : ∀ t ∈ sel (K + M) 0 K, (invR (rowsOf rows t)).2 = true) : ∀ d (i : Nat) (t : List Nat), i ≤ K + M → K + M - i = d → t.length ≤ K → K - t.length ≤ d → (∀ s ∈ sel d i (K - t.length), t ++ s ∈ sel (K + M) 0 K) →
      Ev (fun k => laws_FnSchemas.l0 k p (K : Int) (M : Int) rows (rowsOf rows t) (i : Int)) true := by
  have W0 := Aside0.mk (show wrap64 ((K : Int) + (M : Int)) = ((K + M : Nat) : Int) from wadd (by omega))
  intro d
  induction d with
  | zero =>
    intro i t hi hd ht hk hs
    have hN : i = K + M := by omega
    have hs1 := hs [] (by rw [show K - t.length = 0 by omega]; simp [sel])
    rw [List.append_nil] at hs1
    have g := good t hs1
    refine Ev.step (f := fun k => (impl_InvM.f (rowsOf rows t)).bind fun bt261 => (impl_SchemaOf.f 0).bind fun bt265 => if ((rowsOf rows t).length : Int) = (K : Int) then (if bt261.2 = true then (if bt265.2.2 = true then some false else (impl_CodeOf.f k 4).bind fun t268 => some ((t268.length : Int) == 0)) else some false) else some false) (fun k => ?_) ?_
    · simp only [laws_FnSchemas.l0]
      rw [W0.out, if_neg (by omega)]
    · have iv : impl_InvM.f (rowsOf rows t) = some (invR (rowsOf rows t)) := by
        unfold impl_InvM.f
        rw [if_pos (sizeOk_iff.mpr ⟨by rw [rowsOf_length]; omega, rowsOf_rows (fun x hx2 => by have := hx x hx2; omega) t⟩)]
      refine Ev.some_bind iv (Ev.some_bind (x := (0, 0, false)) rfl (Ev.pos (by rw [rowsOf_length]; omega) (Ev.pos g (Ev.neg (by simp) ?_))))
      exact Ev.bind (impl_CodeOf_ev 4) (Ev.now _)
  | succ d ih =>
    intro i t hi hd ht hk hs
    have b1 := hb _ (rd_mem (p := p) (n := 1) (by omega))
    have b2 := hb _ (rd_mem (p := p) (n := 2) (by omega))
    have e1 : rd p ((1 : Nat) : Int) = rd p 1 := rfl
    have e2 : rd p ((2 : Nat) : Int) = rd p 2 := rfl
    rw [e1] at b1
    rw [e2] at b2
    have WI := Aside0.mk (wsucc (n := i) (by omega))
    have WS := Aside0.mk (show wrap64 (((K + M : Nat) : Int) - (i : Int)) = ((d + 1 : Nat) : Int) from wsub (by omega) (by omega))
    have WT := Aside0.mk (show wrap64 ((K : Int) - ((rowsOf rows t).length : Int)) = ((K - t.length : Nat) : Int) by rw [rowsOf_length]; exact wsub (by omega) (by omega))
    have take : t.length < K → Ev (fun k => laws_FnSchemas.l0 k p (K : Int) (M : Int) rows (rowsOf rows t ++ [rd_L2 rows (i : Int)]) ((i + 1 : Nat) : Int)) true := by
      intro c
      rw [rowsOf_snoc]
      refine ih (i + 1) (t ++ [i]) (by omega) (by omega) (by simp; omega) (by simp; omega) (fun s hs2 => ?_)
      rw [List.append_assoc]
      refine hs _ ?_
      rw [List.length_append, List.length_singleton] at hs2
      rw [show K - t.length = K - (t.length + 1) + 1 by omega]
      exact sel_in hs2
    have skip : K - t.length ≤ d → Ev (fun k => laws_FnSchemas.l0 k p (K : Int) (M : Int) rows (rowsOf rows t) ((i + 1 : Nat) : Int)) true := by
      intro c
      exact ih (i + 1) t (by omega) (by omega) ht c (fun s hs2 => hs s (sel_out hs2))
    have lr : (rowsOf rows t).length < 5864062014805 := by rw [rowsOf_length]; omega
    by_cases c : Int.tmod (wrap64 ((rd p 1) + (wrap64 ((rd p 2) * (i : Int))))) 2 = 0 ∧ t.length < K
    · refine Ev.step (fun k => ?_) (take c.2)
      simp only [laws_FnSchemas.l0]
      rw [W0.out, if_pos (by omega), if_pos (by omega), if_pos (by omega), if_pos c.1, if_pos (by rw [rowsOf_length]; omega), if_pos (by omega), if_pos (by omega), if_pos lr, WI.out]
    · by_cases c2 : d + 1 ≤ K - t.length
      · refine Ev.step (fun k => ?_) (take (by omega))
        simp only [laws_FnSchemas.l0]
        by_cases c3 : Int.tmod (wrap64 ((rd p 1) + (wrap64 ((rd p 2) * (i : Int))))) 2 = 0
        · rw [W0.out, if_pos (by omega), if_pos (by omega), if_pos (by omega), if_pos c3, if_pos (by rw [rowsOf_length]; omega), if_pos (by omega), if_pos (by omega), if_pos lr, WI.out]
        · rw [W0.out, if_pos (by omega), if_pos (by omega), if_pos (by omega), if_neg c3, WS.out, WT.out, if_pos (by omega), if_pos (by omega), if_pos (by omega), if_pos lr, WI.out]
      · refine Ev.step (fun k => ?_) (skip (by omega))
        simp only [laws_FnSchemas.l0]
        by_cases c3 : Int.tmod (wrap64 ((rd p 1) + (wrap64 ((rd p 2) * (i : Int))))) 2 = 0
        · rw [W0.out, if_pos (by omega), if_pos (by omega), if_pos (by omega), if_pos c3, if_neg (by rw [rowsOf_length]; intro h; exact c ⟨c3, by omega⟩), WS.out, WT.out, if_neg (by omega), WI.out]
        · rw [W0.out, if_pos (by omega), if_pos (by omega), if_pos (by omega), if_neg c3, WS.out, WT.out, if_neg (by omega), WI.out]
set_option maxHeartbeats 2000000 in
theorem schemas_one {K M : Nat} {s : Int} {p : List Int} (k1 : 1 ≤ K) (h8 : K + M ≤ 8) (hp : p.length = 12) (hb : ∀ x ∈ p, 0 ≤ x ∧ x < 10000) (hS : impl_SchemaOf.f s = some ((K : Int), (M : Int), true)) (hc : codeR s = codeN K M)
    (good : ∀ t ∈ sel (K + M) 0 K, (invR (rowsOf (codeN K M) t)).2 = true) :
    Ev (fun k => (impl_SchemaOf.f s).bind fun bt225 => ((impl_CodeOf.f k s).bind fun t228 => (if bt225.2.2 = true then (if (t228.length : Int) = (wrap64 (bt225.1 + bt225.2.1)) then ((spec_CodeOf.f k s).bind fun t231 => ((laws_sameMatrix.f k t228 t231).bind fun t234 => (if t234 = true then (if 0 ≤ bt225.1 then (if bt225.1 ≤ (t228.length : Int) then ((spec_OneM.f k bt225.1).bind fun t240 => ((laws_sameMatrix.f k (t228.take (bt225.1 : Int).toNat) t240).bind fun t243 => (laws_FnSchemas.j0 k p bt225.1 bt225.2.1 t228 (!t243)))) else (none)) else (none)) else (laws_FnSchemas.j0 k p bt225.1 bt225.2.1 t228 true)))) else (laws_FnSchemas.j0 k p bt225.1 bt225.2.1 t228 true)) else (laws_FnSchemas.j0 k p bt225.1 bt225.2.1 t228 true)))) true := by
  have z := codeN_size (k := K) (m := M) (by omega) (by omega)
  have ic := impl_CodeOf_ev s
  have sc := spec_CodeOf_ev s
  rw [hc] at ic sc
  have on := spec_OneM_ev (K : Int)
  rw [show oneR (K : Int) = mk K K idf by unfold oneR; rw [if_pos (by omega), Int.toNat_natCast]] at on
  have sm := sameM_ev (codeN K M) (by omega) (fun x hx => by have := z.2 x hx; omega)
  have so := sameM_ev (mk K K idf) (by rw [mk_length]; omega) (mk_rows (by omega))
  have tk : (codeN K M).take ((K : Int)).toNat = mk K K idf := by
    rw [Int.toNat_natCast]
    unfold codeN
    rw [List.take_append_of_le_length (by rw [mk_length]; exact Nat.le_refl _), List.take_of_length_le (by rw [mk_length]; exact Nat.le_refl _)]
  have wk : wrap64 ((K : Int) + (M : Int)) = ((K + M : Nat) : Int) := wadd (by omega)
  have g1 : ((codeN K M).length : Int) = wrap64 ((K : Int) + (M : Int)) := by rw [z.1, wk]
  have g2 : (0 : Int) ≤ (K : Int) := by omega
  have g3 : (K : Int) ≤ ((codeN K M).length : Int) := by rw [z.1]; omega
  refine Ev.some_bind hS (Ev.bind ic (Ev.pos rfl (Ev.pos g1 ?_)))
  refine Ev.bind sc (Ev.bind sm (Ev.pos rfl (Ev.pos g2 (Ev.pos g3 (Ev.bind on ?_)))))
  simp only [tk]
  refine Ev.bind so ?_
  refine Ev.step (f := fun k => laws_FnSchemas.l0 k p (K : Int) (M : Int) (codeN K M) [] 0) (fun k => by simp only [laws_FnSchemas.j0]; rfl) ?_
  exact schemas_pick hp hb z.1 h8 z.2 good (K + M) 0 [] (by omega) (by omega) (by simp) (by simp) (fun s hs => hs)
theorem FnSchemas : laws_FnSchemas.Pure := by
  intro l _ hl _
  have hl' : l.length ≤ 140737488351232 := by omega
  refine Ev.rounds ?_
  unfold laws_FnSchemas.f
  refine Ev.some_bind (x := decide ((l.length : Int) > 1048576)) rfl ?_
  by_cases hb : (l.length : Int) > 1048576
  · exact Ev.pos (by simpa using hb) (Ev.now _)
  · refine Ev.neg (by simpa using hb) ?_
    obtain ⟨p, ep, hp, hq⟩ := places_ev l hl'
    refine Ev.bind ep (Ev.pos (by omega) ?_)
    have b0 := hq _ (rd_mem (p := p) (n := 0) (by omega))
    have e0 : rd p ((0 : Nat) : Int) = rd p 0 := rfl
    rw [e0] at b0
    obtain ⟨c, hc, c2⟩ := tmod_nat b0.1 2
    rw [show ((2 + 1 : Nat) : Int) = 3 from rfl] at hc
    rw [hc]
    have w : wrap64 (1 + (c : Int)) = 1 + (c : Int) := w64 (by omega) (by omega)
    simp only [w]
    have c3 : c = 0 ∨ c = 1 ∨ c = 2 := by omega
    rcases c3 with rfl | rfl | rfl
    · exact schemas_one (K := 2) (M := 1) (by omega) (by omega) hp hq rfl rfl inv_small
    · exact schemas_one (K := 3) (M := 2) (by omega) (by omega) hp hq rfl rfl inv_middle
    · exact schemas_one (K := 4) (M := 2) (by omega) (by omega) hp hq rfl rfl inv_wide


end Go.Proofs.Ythjdnjmlamfdbaa.Pure
