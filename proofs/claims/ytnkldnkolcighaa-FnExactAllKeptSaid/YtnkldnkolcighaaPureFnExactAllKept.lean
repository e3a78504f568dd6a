/- The program's AllKept and the reference's AllKept return the same, for every disk, and leave it alone. -/
import Derived.Test.YtnkldnkolcighaaXFnExactAllKeptx6
import Derived.Test.YtnkldnkolcighaaWf
set_option linter.unusedVariables false
set_option linter.unusedSimpArgs false
namespace Go.Proofs.Ytnkldnkolcighaa.Pure
open Go.RowKit Go.Proofs.Ytnkldnkolcighaa.XFnExactAllKept Go.Proofs.YtnkldnkolcighaaW.PrintWords Go.Proofs.YtnkldnkolcighaaW.PrintLast

/-! ### small words -/
theorem w64 {x : Int} (h0 : -9223372036854775808 ≤ x) (h1 : x ≤ 9223372036854775807) : wrap64 x = x := by
  unfold wrap64
  omega
theorem wf64 {x : Int} (h : (Lit.int .i64 x).wf = true) : -9223372036854775808 ≤ x ∧ x ≤ 9223372036854775807 := by
  simp [Lit.wf, IntKind.min, IntKind.max, IntKind.signed, IntKind.bits] at h
  omega
theorem wfu32 {x : Int} (h : (Lit.int .u32 x).wf = true) : 0 ≤ x ∧ x ≤ 4294967295 := by
  simp [Lit.wf, IntKind.min, IntKind.max, IntKind.signed, IntKind.bits] at h
  omega
theorem wfu8 {x : Int} (h : (Lit.int .u8 x).wf = true) : 0 ≤ x ∧ x ≤ 255 := by
  simp [Lit.wf, IntKind.min, IntKind.max, IntKind.signed, IntKind.bits] at h
  omega
theorem wsucc {n : Nat} (h : n ≤ 4611686018427387904) : wrap64 ((n : Int) + 1) = ((n + 1 : Nat) : Int) := by
  rw [w64 (by omega) (by omega)]
  rfl
theorem wadd {a b : Nat} (h : a + b ≤ 4611686018427387904) : wrap64 ((a : Int) + (b : Int)) = ((a + b : Nat) : Int) := by
  rw [w64 (by omega) (by omega)]
  rfl
theorem wnat {n : Nat} (h : n ≤ 4611686018427387904) : wrap64 (n : Int) = (n : Int) := w64 (by omega) (by omega)
theorem Ev.some_bind {α β : Type} {a : Option α} {x : α} (h : a = some x) {f : Nat → α → Option β} {r : β} (k : Ev (fun n => f n x) r) : Ev (fun n => a.bind (f n)) r := by
  subst h
  exact k
theorem Ev.pos {α : Type} {p : Prop} [Decidable p] (h : p) {f g : Nat → Option α} {r : α} (k : Ev f r) : Ev (fun n => if p then f n else g n) r :=
  Ev.congr (fun _ => if_pos h) k
theorem Ev.neg {α : Type} {p : Prop} [Decidable p] (h : ¬ p) {f g : Nat → Option α} {r : α} (k : Ev g r) : Ev (fun n => if p then f n else g n) r :=
  Ev.congr (fun _ => if_neg h) k
theorem tmod_nat {x : Int} (h0 : 0 ≤ x) (N : Nat) : ∃ c : Nat, Int.tmod x ((N + 1 : Nat) : Int) = (c : Int) ∧ c ≤ N := by
  obtain ⟨c, hc⟩ := Int.eq_ofNat_of_zero_le (Int.tmod_nonneg ((N + 1 : Nat) : Int) h0)
  have hlt := Int.tmod_lt_of_pos x (show (0 : Int) < ((N + 1 : Nat) : Int) by omega)
  rw [hc] at hlt
  exact ⟨c, hc, by omega⟩

theorem spec_l01In_eq (a l h : Int) : spec_l01In.f a l h = some (decide (l ≤ a ∧ a ≤ h)) := by
  unfold spec_l01In.f
  by_cases h1 : l ≤ a
  · rw [if_pos h1]; simp [h1]
  · rw [if_neg h1]; simp [h1]

theorem impl_within_eq (a l h : Int) : impl_within.f a l h = some (decide (l ≤ a ∧ a ≤ h)) := by
  unfold impl_within.f
  by_cases h1 : l ≤ a
  · rw [if_pos h1]; simp [h1]
  · rw [if_neg h1]; simp [h1]

/-! ### files -/
theorem rdF_nat {l : List S67} {i : Nat} (h : i < l.length) : rd_T67 l (i : Int) = l[i] := by
  unfold rd_T67
  rw [Int.toNat_natCast, List.getD_eq_getElem?_getD, List.getElem?_eq_getElem h]
  rfl
def fileOk (f : S67) : Bool := decide (1 ≤ (f.f0.size : Int) ∧ (f.f0.size : Int) ≤ 8) && decide (¬ (f.f1.size : Int) > 20000) && decide (0 ≤ f.f2 ∧ f.f2 ≤ (f.f1.size : Int))
def placeOk (l : List S67) (i : Nat) : Bool := fileOk (rd_T67 l (i : Int)) && (decide (i = 0) || Op.bytesLess ((rd_T67 l ((i - 1 : Nat) : Int)).f0.toList) ((rd_T67 l (i : Int)).f0.toList))
def allFrom (l : List S67) : Nat → Nat → Bool
  | 0, _ => true
  | d + 1, i => placeOk l i && allFrom l d (i + 1)
def diskOkV (l : List S67) : Bool := decide ((l.length : Int) ≤ 30) && allFrom l l.length 0

theorem impl_DiskOk_l0 (l : List S67) (hl : l.length ≤ 4611686018427387904) (d : Nat) : ∀ i : Nat, i ≤ l.length → l.length - i = d → Ev (fun k => impl_DiskOk.l0 k l (l.length : Int) (i : Int) l) (allFrom l d i && decide ((l.length : Int) ≤ 30)) := by
  induction d with
  | zero =>
    intro i hi hd
    exact Ev.step (f := fun _ => some (decide ((l.length : Int) ≤ 30))) (fun k => by simp only [impl_DiskOk.l0]; rw [if_neg (by omega)]) (Ev.now _)
  | succ d ih =>
    intro i hi hd
    have g1 : (i : Int) < (l.length : Int) := by omega
    have g2 : 0 ≤ (i : Int) := by omega
    have hw := wsucc (n := i) (by omega)
    have hrec := ih (i + 1) (by omega) (by omega)
    unfold allFrom placeOk fileOk
    by_cases c1 : 1 ≤ ((rd_T67 l (i : Int)).f0.size : Int) ∧ ((rd_T67 l (i : Int)).f0.size : Int) ≤ 8
    · rw [decide_eq_true c1, Bool.true_and]
      by_cases c2 : ((rd_T67 l (i : Int)).f1.size : Int) > 20000
      · rw [decide_eq_false (fun h => h c2)]
        refine Ev.step (f := fun _ => some false) (fun k => ?_) (by simpa using Ev.now _)
        simp only [impl_DiskOk.l0, impl_within_eq, decide_eq_true c1, Option.bind_some]
        rw [if_pos g1, if_pos g2, if_pos g1, if_pos trivial, if_pos c2]
      · rw [decide_eq_true c2, Bool.true_and]
        by_cases c3 : 0 ≤ (rd_T67 l (i : Int)).f2 ∧ (rd_T67 l (i : Int)).f2 ≤ ((rd_T67 l (i : Int)).f1.size : Int)
        · rw [decide_eq_true c3, Bool.true_and]
          by_cases c4 : i = 0
          · rw [decide_eq_true c4, Bool.true_or, Bool.true_and]
            refine Ev.step (fun k => ?_) hrec
            simp only [impl_DiskOk.l0, impl_within_eq, decide_eq_true c1, decide_eq_true c3, Option.bind_some]
            rw [if_pos g1, if_pos g2, if_pos g1, if_pos trivial, if_neg c2, if_pos trivial, if_neg (by omega), hw]
          · rw [decide_eq_false c4, Bool.false_or]
            have hp : wrap64 ((i : Int) - 1) = ((i - 1 : Nat) : Int) := by rw [w64 (by omega) (by omega)]; omega
            have g3 : (i : Int) > 0 := by omega
            have g4 : 0 ≤ ((i - 1 : Nat) : Int) := by omega
            have g5 : ((i - 1 : Nat) : Int) < (l.length : Int) := by omega
            by_cases c5 : Op.bytesLess ((rd_T67 l ((i - 1 : Nat) : Int)).f0.toList) ((rd_T67 l (i : Int)).f0.toList) = true
            · rw [c5, Bool.true_and]
              refine Ev.step (fun k => ?_) hrec
              simp only [impl_DiskOk.l0, impl_within_eq, decide_eq_true c1, decide_eq_true c3, Option.bind_some, hp]
              rw [if_pos g1, if_pos g2, if_pos g1, if_pos trivial, if_neg c2, if_pos trivial, if_pos g3, if_pos g4, if_pos g5, if_pos c5, hw]
            · rw [Bool.eq_false_iff.2 c5]
              refine Ev.step (f := fun _ => some false) (fun k => ?_) (by simpa using Ev.now _)
              simp only [impl_DiskOk.l0, impl_within_eq, decide_eq_true c1, decide_eq_true c3, Option.bind_some, hp]
              rw [if_pos g1, if_pos g2, if_pos g1, if_pos trivial, if_neg c2, if_pos trivial, if_pos g3, if_pos g4, if_pos g5, if_neg c5]
        · rw [decide_eq_false c3]
          refine Ev.step (f := fun _ => some false) (fun k => ?_) (by simpa using Ev.now _)
          simp only [impl_DiskOk.l0, impl_within_eq, decide_eq_true c1, decide_eq_false c3, Option.bind_some]
          rw [if_pos g1, if_pos g2, if_pos g1, if_pos trivial, if_neg c2, if_neg (by simp)]
    · rw [decide_eq_false c1]
      refine Ev.step (f := fun _ => some false) (fun k => ?_) (by simpa using Ev.now _)
      simp only [impl_DiskOk.l0, impl_within_eq, decide_eq_false c1, Option.bind_some]
      rw [if_pos g1, if_pos g2, if_pos g1, if_neg (by simp)]
theorem impl_DiskOk_ev (l : List S67) (hl : l.length ≤ 4611686018427387904) : Ev (fun k => impl_DiskOk.f k l) (diskOkV l) := by
  unfold impl_DiskOk.f diskOkV
  rw [Bool.and_comm]
  exact impl_DiskOk_l0 l hl l.length 0 (by omega) (by omega)

theorem spec_l03Name_eq (s : ByteArray) : spec_l03Name.f s = some (decide (1 ≤ (s.size : Int) ∧ (s.size : Int) ≤ 8)) := by
  unfold spec_l03Name.f
  rw [spec_l01In_eq]
  rfl
theorem spec_DiskOk_l0 (l : List S67) (hl : l.length ≤ 4611686018427387904) (d : Nat) : ∀ i : Nat, i ≤ l.length → l.length - i = d → Ev (fun k => spec_DiskOk.l0 k (i : Int) l) (allFrom l d i) := by
  induction d with
  | zero =>
    intro i hi hd
    exact Ev.step (f := fun _ => some true) (fun k => by simp only [spec_DiskOk.l0]; rw [if_neg (by omega)]) (Ev.now _)
  | succ d ih =>
    intro i hi hd
    have g1 : (i : Int) < (l.length : Int) := by omega
    have g2 : 0 ≤ (i : Int) := by omega
    have hw := wsucc (n := i) (by omega)
    have hrec := ih (i + 1) (by omega) (by omega)
    unfold allFrom placeOk fileOk
    by_cases c1 : 1 ≤ ((rd_T67 l (i : Int)).f0.size : Int) ∧ ((rd_T67 l (i : Int)).f0.size : Int) ≤ 8
    · rw [decide_eq_true c1, Bool.true_and]
      by_cases c2 : ((rd_T67 l (i : Int)).f1.size : Int) > 20000
      · rw [decide_eq_false (fun h => h c2)]
        refine Ev.step (f := fun _ => some false) (fun k => ?_) (by simpa using Ev.now _)
        simp only [spec_DiskOk.l0, spec_l03Name_eq, decide_eq_true c1, Option.bind_some]
        rw [if_pos g1, if_pos g2, if_pos trivial, if_pos c2]
      · rw [decide_eq_true c2, Bool.true_and]
        by_cases c3 : 0 ≤ (rd_T67 l (i : Int)).f2 ∧ (rd_T67 l (i : Int)).f2 ≤ ((rd_T67 l (i : Int)).f1.size : Int)
        · rw [decide_eq_true c3, Bool.true_and]
          by_cases c4 : i = 0
          · rw [decide_eq_true c4, Bool.true_or, Bool.true_and]
            refine Ev.step (fun k => ?_) hrec
            simp only [spec_DiskOk.l0, spec_l03Name_eq, spec_l01In_eq, decide_eq_true c1, decide_eq_true c3, Option.bind_some]
            rw [if_pos g1, if_pos g2, if_pos trivial, if_neg c2, if_pos trivial, if_neg (by omega), hw]
          · rw [decide_eq_false c4, Bool.false_or]
            have hp : wrap64 ((i : Int) - 1) = ((i - 1 : Nat) : Int) := by rw [w64 (by omega) (by omega)]; omega
            have g3 : (i : Int) > 0 := by omega
            have g4 : 0 ≤ ((i - 1 : Nat) : Int) := by omega
            have g5 : ((i - 1 : Nat) : Int) < (l.length : Int) := by omega
            by_cases c5 : Op.bytesLess ((rd_T67 l ((i - 1 : Nat) : Int)).f0.toList) ((rd_T67 l (i : Int)).f0.toList) = true
            · rw [c5, Bool.true_and]
              refine Ev.step (fun k => ?_) hrec
              simp only [spec_DiskOk.l0, spec_l03Name_eq, spec_l01In_eq, decide_eq_true c1, decide_eq_true c3, Option.bind_some, hp]
              rw [if_pos g1, if_pos g2, if_pos trivial, if_neg c2, if_pos trivial, if_pos g3, if_pos g4, if_pos g5, if_pos c5, hw]
            · rw [Bool.eq_false_iff.2 c5]
              refine Ev.step (f := fun _ => some false) (fun k => ?_) (by simpa using Ev.now _)
              simp only [spec_DiskOk.l0, spec_l03Name_eq, spec_l01In_eq, decide_eq_true c1, decide_eq_true c3, Option.bind_some, hp]
              rw [if_pos g1, if_pos g2, if_pos trivial, if_neg c2, if_pos trivial, if_pos g3, if_pos g4, if_pos g5, if_neg c5]
        · rw [decide_eq_false c3]
          refine Ev.step (f := fun _ => some false) (fun k => ?_) (by simpa using Ev.now _)
          simp only [spec_DiskOk.l0, spec_l03Name_eq, spec_l01In_eq, decide_eq_true c1, decide_eq_false c3, Option.bind_some]
          rw [if_pos g1, if_pos g2, if_pos trivial, if_neg c2, if_neg (by simp)]
    · rw [decide_eq_false c1]
      refine Ev.step (f := fun _ => some false) (fun k => ?_) (by simpa using Ev.now _)
      simp only [spec_DiskOk.l0, spec_l03Name_eq, decide_eq_false c1, Option.bind_some]
      rw [if_pos g1, if_pos g2, if_neg (by simp)]
theorem spec_DiskOk_ev (l : List S67) (hl : l.length ≤ 4611686018427387904) : Ev (fun k => spec_DiskOk.f k l) (diskOkV l) := by
  unfold spec_DiskOk.f diskOkV
  by_cases h : (l.length : Int) > 30
  · rw [decide_eq_false (show ¬ (l.length : Int) ≤ 30 by omega)]
    simp only [if_pos h]
    exact Ev.now _
  · rw [decide_eq_true (show (l.length : Int) ≤ 30 by omega), Bool.true_and]
    simp only [if_neg h]
    exact spec_DiskOk_l0 l hl l.length 0 (by omega) (by omega)

/-! ### a disk as an argument of a law -/
def toF (y : S91) : S67 := ⟨y.f0, y.f1, y.f2⟩
theorem rdLF_nat {l : List S91} {i : Nat} (h : i < l.length) : rd_T91 l (i : Int) = l[i] := by
  unfold rd_T91
  rw [Int.toNat_natCast, List.getD_eq_getElem?_getD, List.getElem?_eq_getElem h]
  rfl
theorem szFile_ex (y : S91) (h0 : y.f0.size ≤ 9223372036854775807) (h1 : y.f1.size ≤ 9223372036854775807) (c : Int) (left : Int) (hl0 : 0 ≤ left) (hl1 : left ≤ 1048576) :
    ∃ r, laws_szFile.f y.f0 y.f1 c left = some r ∧ (r < 0 ∨ (0 ≤ r ∧ r ≤ left ∧ (y.f0.size : Int) ≤ left ∧ (y.f1.size : Int) ≤ left)) := by
  unfold laws_szFile.f
  rw [w64 (x := left - (y.f0.size : Int)) (by omega) (by omega)]
  by_cases c1 : left - (y.f0.size : Int) < 0
  · rw [if_pos c1]
    exact ⟨_, rfl, .inl (by omega)⟩
  · rw [if_neg c1, w64 (by omega) (by omega)]
    by_cases c2 : left - (y.f0.size : Int) - (y.f1.size : Int) < 0
    · rw [if_pos c2]
      exact ⟨_, rfl, .inl (by omega)⟩
    · rw [if_neg c2]
      exact ⟨_, rfl, .inr ⟨by omega, by omega, by omega, by omega⟩⟩
theorem szDisk_ex (l : List S91) (hl : l.length ≤ 9223372036854775807) (hw : ∀ y ∈ l, y.f0.size ≤ 9223372036854775807 ∧ y.f1.size ≤ 9223372036854775807) :
    ∃ r, Ev (fun k => laws_szDisk.f k l 1048576) r ∧ (¬ r < 0 → l.length ≤ 1048576 ∧ r ≤ 1048576 ∧ ∀ y ∈ l, (y.f0.size : Int) ≤ 1048576 ∧ (y.f1.size : Int) ≤ 1048576) := by
  have key : ∀ d (i : Nat) (left : Int), i ≤ l.length → l.length - i = d → l.length ≤ 1048576 → 0 ≤ left → left ≤ 1048576 → ∃ r, Ev (fun k => laws_szFileS.l0 k l left (i : Int)) r ∧ (¬ r < 0 → r ≤ 1048576 ∧ ∀ y ∈ l.drop i, (y.f0.size : Int) ≤ 1048576 ∧ (y.f1.size : Int) ≤ 1048576) := by
    intro d
    induction d with
    | zero =>
      intro i left hi hd hlen h0 h1
      refine ⟨left, Ev.step (f := fun _ => some left) (fun k => by simp only [laws_szFileS.l0]; rw [if_neg (by omega)]) (Ev.now _), fun _ => ⟨h1, fun y hy => ?_⟩⟩
      rw [List.drop_of_length_le (by omega)] at hy
      simp at hy
    | succ d ih =>
      intro i left hi hd hlen h0 h1
      have hlt : i < l.length := by omega
      have hy := hw (l[i]) (List.getElem_mem hlt)
      obtain ⟨r, hr, hr2⟩ := szFile_ex (l[i]) hy.1 hy.2 (l[i].f2) left h0 h1
      have hwr := wsucc (n := i) (by omega)
      rcases hr2 with hr2 | ⟨r0, r1, r2, r3⟩
      · refine ⟨-1, Ev.step (f := fun _ => some (-1)) (fun k => ?_) (Ev.now _), fun h => absurd (show (-1 : Int) < 0 by omega) h⟩
        simp only [laws_szFileS.l0, rdLF_nat hlt, hr, Option.bind_some]
        rw [if_pos (by omega), if_pos (by omega), if_pos hr2]
      · obtain ⟨s, hs, hs2⟩ := ih (i + 1) r (by omega) (by omega) hlen r0 (by omega)
        refine ⟨s, Ev.step (fun k => ?_) hs, fun h => ⟨(hs2 h).1, fun y hy2 => ?_⟩⟩
        · simp only [laws_szFileS.l0, rdLF_nat hlt, hr, Option.bind_some, hwr]
          rw [if_pos (by omega), if_pos (by omega), if_neg (by omega)]
        · rw [List.drop_eq_getElem_cons hlt] at hy2
          rcases List.mem_cons.1 hy2 with h2 | h2
          · rw [h2]; exact ⟨by omega, by omega⟩
          · exact (hs2 h).2 y h2
  unfold laws_szDisk.f laws_szFileS.f
  by_cases c : wrap64 (1048576 - (l.length : Int)) < 0
  · refine ⟨-1, ?_, fun h => absurd (show (-1 : Int) < 0 by omega) h⟩
    simp only [if_pos c, Option.bind_some, if_pos (show (-1 : Int) < 0 by omega)]
    exact Ev.now _
  · rw [w64 (by omega) (by omega)] at c ⊢
    obtain ⟨r, hr, hr2⟩ := key l.length 0 (1048576 - (l.length : Int)) (by omega) (by omega) (by omega) (by omega) (by omega)
    refine ⟨if r < 0 then -1 else r, ?_, ?_⟩
    · simp only [if_neg c]
      refine Ev.bind hr ?_
      by_cases h : r < 0
      · simp only [if_pos h]; exact Ev.now _
      · simp only [if_neg h]; exact Ev.now _
    · intro h
      by_cases h2 : r < 0
      · rw [if_pos h2] at h; omega
      · rw [if_neg h2] at h ⊢
        have := hr2 h2
        rw [List.drop_zero] at this
        exact ⟨by omega, this.1, this.2⟩
theorem toDisk_ev (l : List S91) (hl : l.length ≤ 1048576) : Ev (fun k => laws_toDisk.f k l) (l.map toF) := by
  have key : ∀ d (i : Nat), i ≤ l.length → l.length - i = d → Ev (fun k => laws_toFileS.l0 k l ((l.take i).map toF ++ List.replicate (l.length - i) z67) (i : Int)) (l.map toF) := by
    intro d
    induction d with
    | zero =>
      intro i hi hd
      obtain rfl : i = l.length := by omega
      rw [List.take_length, Nat.sub_self, List.replicate_zero, List.append_nil]
      exact Ev.step (f := fun _ => some (l.map toF)) (fun k => by simp only [laws_toFileS.l0]; rw [if_neg (by omega)]) (Ev.now _)
    | succ d ih =>
      intro i hi hd
      have hlt : i < l.length := by omega
      have hwr := wsucc (n := i) (by omega)
      have hlen : ((l.take i).map toF ++ List.replicate (l.length - i) z67).length = l.length := by simp; omega
      have hset : ((l.take i).map toF ++ List.replicate (l.length - i) z67).set i (toF l[i]) = (l.take (i + 1)).map toF ++ List.replicate (l.length - (i + 1)) z67 := by
        have h1 : ((l.take i).map toF).length = i := by simp; omega
        rw [List.set_append_right _ _ (by omega), h1, Nat.sub_self, show l.length - i = (l.length - (i + 1)) + 1 by omega, List.replicate_succ, List.set_cons_zero, List.take_succ_eq_append_getElem hlt, List.map_append, List.append_assoc]
        rfl
      have := ih (i + 1) (by omega) (by omega)
      rw [← hset] at this
      refine Ev.step (fun k => ?_) this
      simp only [laws_toFileS.l0, laws_toFile.f, Option.bind_some, hlen, rdLF_nat hlt, hwr]
      rw [if_pos (by omega), if_pos (by omega), if_pos (by omega)]
      rfl
  have h0 := key l.length 0 (by omega) (by omega)
  rw [List.take_zero, List.map_nil, List.nil_append, Nat.sub_zero] at h0
  unfold laws_toDisk.f laws_toFileS.f
  simp only [Int.toNat_natCast, if_pos (show 0 ≤ (l.length : Int) by omega), if_pos (show l.length ≤ 7036874417766 by omega)]
  exact Ev.bind h0 (Ev.now _)
theorem eqDisk_ev (l : List S67) (hl : l.length ≤ 4611686018427387904) : Ev (fun k => laws_eqDisk.f k l l) true := by
  have key : ∀ d (i : Nat), i ≤ l.length → l.length - i = d → Ev (fun k => laws_eqFileS.l0 k l l (i : Int)) true := by
    intro d
    induction d with
    | zero =>
      intro i hi hd
      exact Ev.step (f := fun _ => some true) (fun k => by simp only [laws_eqFileS.l0]; rw [if_neg (by omega)]) (Ev.now _)
    | succ d ih =>
      intro i hi hd
      have hwr := wsucc (n := i) (by omega)
      refine Ev.step (fun k => ?_) (ih (i + 1) (by omega) (by omega))
      simp only [laws_eqFileS.l0, laws_eqFile.f, if_true, Option.bind_some, hwr]
      rw [if_pos (by omega), if_pos (by omega), if_pos (by omega)]
  unfold laws_eqDisk.f laws_eqFileS.f
  simp only [if_true]
  exact Ev.bind (key l.length 0 (by omega) (by omega)) (Ev.pos rfl (Ev.now _))

/-! ### disks all of which is kept -/
def keptFrom (l : List S67) : Nat → Nat → Bool
  | 0, _ => true
  | d + 1, i => decide ((rd_T67 l (i : Int)).f2 = ((rd_T67 l (i : Int)).f1.size : Int)) && keptFrom l d (i + 1)
def allKeptV (l : List S67) : Bool := diskOkV l && keptFrom l l.length 0
theorem allFrom_at {l : List S67} : ∀ {d i : Nat}, allFrom l d i = true → ∀ j, i ≤ j → j < i + d → placeOk l j = true
  | 0, _, _, j, h1, h2 => by omega
  | d + 1, i, h, j, h1, h2 => by
    unfold allFrom at h
    rw [Bool.and_eq_true] at h
    by_cases e : j = i
    · subst e
      exact h.1
    · exact allFrom_at h.2 j (by omega) (by omega)
theorem kept_le {l : List S67} (h : diskOkV l = true) {i : Nat} (hi : i < l.length) : (rd_T67 l (i : Int)).f2 ≤ ((rd_T67 l (i : Int)).f1.size : Int) := by
  unfold diskOkV at h
  rw [Bool.and_eq_true] at h
  have p := allFrom_at h.2 i (by omega) (by omega)
  unfold placeOk fileOk at p
  rw [Bool.and_eq_true, Bool.and_eq_true] at p
  exact (of_decide_eq_true p.1.2).2
theorem spec_AllKept_ev (l : List S67) (hl : l.length ≤ 4611686018427387904) : Ev (fun k => spec_AllKept.f k l) (allKeptV l) := by
  unfold spec_AllKept.f allKeptV
  refine Ev.bind (spec_DiskOk_ev l hl) ?_
  cases hd : diskOkV l with
  | false => exact Ev.neg (by simp) (Ev.now _)
  | true =>
    refine Ev.pos rfl ?_
    rw [Bool.true_and]
    have key : ∀ d i : Nat, i ≤ l.length → l.length - i = d → Ev (fun k => spec_AllKept.l0 k (i : Int) l) (keptFrom l d i) := by
      intro d
      induction d with
      | zero =>
        intro i hi he
        refine Ev.step (f := fun _ => some true) (fun k => ?_) (Ev.now _)
        simp only [spec_AllKept.l0]
        rw [if_neg (by omega)]
      | succ d ih =>
        intro i hi he
        have z := ih (i + 1) (by omega) (by omega)
        have le := kept_le hd (i := i) (by omega)
        by_cases c : (rd_T67 l (i : Int)).f2 = ((rd_T67 l (i : Int)).f1.size : Int)
        · rw [keptFrom, decide_eq_true c, Bool.true_and]
          refine Ev.step (fun k => ?_) z
          simp only [spec_AllKept.l0]
          rw [if_pos (by omega), if_pos (by omega), if_neg (by omega), wsucc (by omega)]
        · rw [keptFrom, decide_eq_false c, Bool.false_and]
          refine Ev.step (f := fun _ => some false) (fun k => ?_) (Ev.now _)
          simp only [spec_AllKept.l0]
          rw [if_pos (by omega), if_pos (by omega), if_pos (by omega)]
    exact key l.length 0 (by omega) (by omega)
theorem kept_index_ev (l : List S67) (hl : l.length ≤ 4611686018427387904) : ∃ r : Int, Ev (fun k => impl_File_66.f k l) r ∧ decide (r ≥ 0) = !(keptFrom l l.length 0) := by
  have key : ∀ d i : Nat, i ≤ l.length → l.length - i = d → ∃ r : Int, Ev (fun k => impl_File_66.l0 k l (l.length : Int) (i : Int)) r ∧ decide (r ≥ 0) = !(keptFrom l d i) := by
    intro d
    induction d with
    | zero =>
      intro i hi he
      refine ⟨-1, Ev.step (f := fun _ => some (-1)) (fun k => ?_) (Ev.now _), rfl⟩
      simp only [impl_File_66.l0]
      rw [if_neg (by omega)]
    | succ d ih =>
      intro i hi he
      by_cases c : (rd_T67 l (i : Int)).f2 = ((rd_T67 l (i : Int)).f1.size : Int)
      · obtain ⟨r, h1, h2⟩ := ih (i + 1) (by omega) (by omega)
        refine ⟨r, Ev.step (fun k => ?_) h1, by rw [keptFrom, decide_eq_true c, Bool.true_and]; exact h2⟩
        simp only [impl_File_66.l0, impl_AllKept_1.f]
        rw [if_pos (by omega), if_pos (by omega), if_pos (by omega), Option.bind_some, if_neg (by simp [c]), wsucc (by omega)]
      · refine ⟨(i : Int), Ev.step (f := fun _ => some (i : Int)) (fun k => ?_) (Ev.now _), by rw [keptFrom, decide_eq_false c, Bool.false_and, decide_eq_true (by omega)]; rfl⟩
        simp only [impl_File_66.l0, impl_AllKept_1.f]
        rw [if_pos (by omega), if_pos (by omega), if_pos (by omega), Option.bind_some, if_pos (bne_iff_ne.mpr c)]
  exact key l.length 0 (by omega) (by omega)
theorem impl_AllKept_ev (l : List S67) (hl : l.length ≤ 4611686018427387904) : Ev (fun k => impl_AllKept.f k l) (allKeptV l) := by
  unfold impl_AllKept.f allKeptV
  refine Ev.bind (impl_DiskOk_ev l hl) ?_
  cases hd : diskOkV l with
  | false => exact Ev.neg (by simp) (Ev.now _)
  | true =>
    refine Ev.pos rfl ?_
    obtain ⟨r, h1, h2⟩ := kept_index_ev l hl
    unfold impl_File_43.f
    refine Ev.bind (Ev.bind h1 (Ev.now _)) ?_
    rw [h2, Bool.not_not, Bool.true_and]
    exact Ev.now _

theorem FnExactAllKept : laws_FnExactAllKept.Pure := by
  intro l hl
  obtain ⟨h1, h2⟩ := hl
  have hml : l.length ≤ 9223372036854775807 := h1
  obtain ⟨r, hr, hr2⟩ := szDisk_ex l hml (fun y hy => ⟨(h2 y hy).1, (h2 y hy).2.1⟩)
  refine Ev.rounds ?_
  unfold laws_FnExactAllKept.f
  refine Ev.bind hr ?_
  by_cases c : r < 0
  · exact Ev.pos c (Ev.now _)
  · refine Ev.neg c ?_
    have hb := (hr2 c).1
    have hb2 : (l.map toF).length ≤ 4611686018427387904 := by rw [List.length_map]; omega
    refine Ev.bind (toDisk_ev l hb) (Ev.bind (spec_AllKept_ev _ hb2) (Ev.bind (toDisk_ev l hb) (Ev.bind (impl_AllKept_ev _ hb2) (Ev.neg (by simp) (Ev.bind (toDisk_ev l hb) (Ev.bind (eqDisk_ev _ hb2) (Ev.pos rfl (Ev.now _))))))))


end Go.Proofs.Ytnkldnkolcighaa.Pure
